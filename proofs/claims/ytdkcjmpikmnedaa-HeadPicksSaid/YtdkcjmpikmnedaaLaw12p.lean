/- HeadPicks, walked. -/
import Derived.Test.YtdkcjmpikmnedaaLaw12a
namespace Go.Proofs.Ytdkcjmpikmnedaa
open Go.RowKit

set_option maxRecDepth 100000 in
set_option maxHeartbeats 4000000 in
theorem headPicks_any (a b : Hd) (w : World) : Calls Try.prog 10 #[.agg a.cs, .agg b.cs] w fun e w' => e = .returned (.bool true) ∧ Below w.heap.size w w' := by
  have b1 := (Below.refl w.heap.size w).alloc (Nat.le_refl _) (.cells a.cs 55)
  have b2 := b1.alloc b1.size (.cells b.cs 55)
  have A2 := (Blk.new w 55 a.cs).alloc (.cells b.cs 55)
  have B2 : Blk ((w.alloc (.cells a.cs 55)).alloc (.cells b.cs 55)) (w.heap.size + 1) 55 b.cs := by
    have := Blk.new (w.alloc (.cells a.cs 55)) 55 b.cs
    simpa using this
  have EA := fun w => hd_equal a w
  have EB := fun w => hd_equal b w
  have GT : Try.prog.eqGuardType Try.prog.depth 55 = false := by kernel_rfl
  clear b1
  go_enter Try.func10, Try.ntmps10
  go_wp2_with fail
  generalize (w.alloc (.cells a.cs 55)).alloc (.cells b.cs 55) = w2 at *
  refine (awake12_any w2).mono ?_
  rintro e w3 ⟨rfl, b3⟩
  have A3 := A2.below b3 A2.lt
  have B3 := B2.below b3 B2.lt
  have b3' := b2.trans (b3.mono b2.size)
  clear A2 B2 b2 b3
  have a0 : w3.cell? ⟨w.heap.size, 0, none⟩ = some (.int .i64 a.v) := A3.cell 0
  have a1 : w3.cell? ⟨w.heap.size, 1, none⟩ = some (.int .i64 a.s) := A3.cell 1
  have a2 : w3.cell? ⟨w.heap.size, 2, none⟩ = some (.int .i64 a.g) := A3.cell 2
  have a3 : w3.cell? ⟨w.heap.size, 3, none⟩ = some (.int .i64 a.u) := A3.cell 3
  have a4 : w3.cell? ⟨w.heap.size, 4, none⟩ = some (.int .i64 a.j) := A3.cell 4
  have a5 : w3.cell? ⟨w.heap.size, 5, none⟩ = some (.int .i64 a.nu) := A3.cell 5
  have a6 : w3.cell? ⟨w.heap.size, 6, none⟩ = some (.int .i64 a.pg) := A3.cell 6
  have a7 : w3.cell? ⟨w.heap.size, 7, none⟩ = some (.int .i64 a.rt) := A3.cell 7
  have a8 : w3.cell? ⟨w.heap.size, 8, none⟩ = some (.int .i64 a.sn) := A3.cell 8
  by_cases ha : headOk a
  · go_wp2_with fail
    refine (hput_good a ha w3).mono ?_
    rintro e w4 ⟨xb, xo, xc, rfl, x4, hxc, b4⟩
    have A4 := A3.below b4 A3.lt
    have B4 := B3.below b4 B3.lt
    have b4' := b3'.trans (b4.mono b3'.size)
    clear A3 B3 b3' b4 a0 a1 a2 a3 a4 a5 a6 a7 a8
    have q0 : w4.cell? ⟨w.heap.size + 1, 0, none⟩ = some (.int .i64 b.v) := B4.cell 0
    have q1 : w4.cell? ⟨w.heap.size + 1, 1, none⟩ = some (.int .i64 b.s) := B4.cell 1
    have q2 : w4.cell? ⟨w.heap.size + 1, 2, none⟩ = some (.int .i64 b.g) := B4.cell 2
    have q3 : w4.cell? ⟨w.heap.size + 1, 3, none⟩ = some (.int .i64 b.u) := B4.cell 3
    have q4 : w4.cell? ⟨w.heap.size + 1, 4, none⟩ = some (.int .i64 b.j) := B4.cell 4
    have q5 : w4.cell? ⟨w.heap.size + 1, 5, none⟩ = some (.int .i64 b.nu) := B4.cell 5
    have q6 : w4.cell? ⟨w.heap.size + 1, 6, none⟩ = some (.int .i64 b.pg) := B4.cell 6
    have q7 : w4.cell? ⟨w.heap.size + 1, 7, none⟩ = some (.int .i64 b.rt) := B4.cell 7
    have q8 : w4.cell? ⟨w.heap.size + 1, 8, none⟩ = some (.int .i64 b.sn) := B4.cell 8
    by_cases hb : headOk b
    · go_wp2_with fail
      refine (hput_good b hb w4).mono ?_
      rintro e w5 ⟨yb, yo, yc, rfl, y5, hyc, b5⟩
      have A5 := A4.below b5 A4.lt
      have B5 := B4.below b5 B4.lt
      have x5 := (x4.imp (Q := (· < w4.heap.size)) fun b hb _ => hb).below b5 fun b hb h => h
      have b5' := b4'.trans (b5.mono b4'.size)
      clear A4 B4 x4 b4' b5 q0 q1 q2 q3 q4 q5 q6 q7 q8
      have la := hd_bytes_length a
      have lb := hd_bytes_length b
      have HK1 := hide (fun A B c c' P Q w hr hs => hpick_at A B c c' 512 512 a.bytes b.bytes P Q w hr hs la lb (by omega) (by omega))
      have HK2 := hide (fun A B c c' P Q w hr hs => hpick_at A B c c' 512 512 b.bytes a.bytes P Q w hr hs lb la (by omega) (by omega))
      have l511 : (b.bytes.take 511).length = 511 := by rw [List.length_take, lb]; rfl
      have HK3 := fun A B c c' P Q w hr hs => hpick_at A B c c' 512 511 a.bytes (b.bytes.take 511) P Q w hr hs la l511 (by omega) (by omega)
      have HK4 := fun B c' Q w hs => hpick_at none B 0 c' 0 512 [] b.bytes (fun _ => True) Q w Rd.nil hs rfl lb (by omega) (by omega) (by omega)
      rw [pk_left ha (not_head (by rw [l511]; decide))] at HK3
      rw [pk_right hb (not_head (by simp))] at HK4
      have H3 := hide HK3
      have H4 := hide HK4
      have PAB := pk_heads ha hb
      have PBA := pk_heads hb ha
      have i5 : 511 ≤ yc := by omega
      have i5' : (511 : Int) ≤ (yc : Int) := by omega
      have y5t := y5.take 511
      rw [← bs_take] at y5t
      clear HK3 HK4 la lb l511 ha hb
      rcases Int.lt_trichotomy a.nu b.nu with h | h | h
      · have HK1' := HK1.out
        have HK2' := HK2.out
        rw [if_pos h] at PAB
        rw [if_neg (by omega)] at PBA
        have D0 : (a.nu == b.nu) = false := by rw [beq_eq_false_iff_ne]; omega
        have D1 : decide (a.nu < b.nu) = true := decide_eq_true h
        clear h
        rw [PAB] at HK1'
        rw [PBA] at HK2'
        have H1 := hide HK1'
        have H2 := hide HK2'
        clear HK1' HK2' PAB PBA HK1 HK2
        go_wp2_with fail
        refine (H1.out (some ⟨xb, xo, none⟩) (some ⟨yb, yo, none⟩) xc yc _ _ w5 x5 y5 hxc hyc).mono ?_
        rintro e w6 ⟨rfl, bb6⟩
        have A6 := A5.below bb6 A5.lt
        have B6 := B5.below bb6 B5.lt
        have x6 := x5.below bb6 fun b hb h => hb
        have y6 := y5.below bb6 fun b hb h => hb
        have y6t := y5t.below bb6 fun b hb h => hb
        have b6' := b5'.trans (bb6.mono b5'.size)
        have ba6 := (Below.refl w6.heap.size w6).alloc (Nat.le_refl _) (.cells b.cs 55)
        have A7 := A6.below ba6 A6.lt
        have B7 := B6.below ba6 B6.lt
        have H7 := Blk.new w6 55 b.cs
        have x7 := x6.below ba6 fun b hb h => hb
        have y7 := y6.below ba6 fun b hb h => hb
        have y7t := y6t.below ba6 fun b hb h => hb
        have b7' := b6'.trans (ba6.mono b6'.size)
        clear A5 B5 x5 y5 y5t b5' A6 B6 x6 y6 y6t b6' bb6 ba6
        go_wp2_with fail
        generalize w6.alloc (.cells b.cs 55) = w7 at *
        generalize w6.heap.size = hk at *
        refine (H2.out (some ⟨yb, yo, none⟩) (some ⟨xb, xo, none⟩) yc xc _ _ w7 y7 x7 hyc hxc).mono ?_
        rintro e w8 ⟨rfl, bb8⟩
        have A8 := A7.below bb8 A7.lt
        have B8 := B7.below bb8 B7.lt
        have H8 := H7.below bb8 H7.lt
        have x8 := x7.below bb8 fun b hb h => hb
        have y8 := y7.below bb8 fun b hb h => hb
        have y8t := y7t.below bb8 fun b hb h => hb
        have b8' := b7'.trans (bb8.mono b7'.size)
        have ba8 := (Below.refl w8.heap.size w8).alloc (Nat.le_refl _) (.cells b.cs 55)
        have A9 := A8.below ba8 A8.lt
        have B9 := B8.below ba8 B8.lt
        have H9 := H8.below ba8 H8.lt
        have I9 := Blk.new w8 55 b.cs
        have x9 := x8.below ba8 fun b hb h => hb
        have y9 := y8.below ba8 fun b hb h => hb
        have y9t := y8t.below ba8 fun b hb h => hb
        have b9' := b8'.trans (ba8.mono b8'.size)
        clear A7 B7 H7 x7 y7 y7t b7' A8 B8 H8 x8 y8 y8t b8' bb8 ba8
        go_wp2_with fail
        generalize w8.alloc (.cells b.cs 55) = w9 at *
        generalize w8.heap.size = ik at *
        refine (H3.out (some ⟨xb, xo, none⟩) (some ⟨yb, yo, none⟩) xc yc _ _ w9 x9 y9t hxc i5).mono ?_
        rintro e w10 ⟨rfl, bb10⟩
        have A10 := A9.below bb10 A9.lt
        have B10 := B9.below bb10 B9.lt
        have H10 := H9.below bb10 H9.lt
        have I10 := I9.below bb10 I9.lt
        have x10 := x9.below bb10 fun b hb h => hb
        have y10 := y9.below bb10 fun b hb h => hb
        have y10t := y9t.below bb10 fun b hb h => hb
        have b10' := b9'.trans (bb10.mono b9'.size)
        have ba10 := (Below.refl w10.heap.size w10).alloc (Nat.le_refl _) (.cells a.cs 55)
        have A11 := A10.below ba10 A10.lt
        have B11 := B10.below ba10 B10.lt
        have H11 := H10.below ba10 H10.lt
        have I11 := I10.below ba10 I10.lt
        have P11 := Blk.new w10 55 a.cs
        have x11 := x10.below ba10 fun b hb h => hb
        have y11 := y10.below ba10 fun b hb h => hb
        have y11t := y10t.below ba10 fun b hb h => hb
        have b11' := b10'.trans (ba10.mono b10'.size)
        clear A9 B9 H9 I9 x9 y9 y9t b9' A10 B10 H10 I10 x10 y10 y10t b10' bb10 ba10
        go_wp2_with fail
        generalize w10.alloc (.cells a.cs 55) = w11 at *
        generalize w10.heap.size = pk at *
        refine (H4.out (some ⟨yb, yo, none⟩) yc _ w11 y11 hyc).mono ?_
        rintro e w12 ⟨rfl, bb12⟩
        have A12 := A11.below bb12 A11.lt
        have B12 := B11.below bb12 B11.lt
        have H12 := H11.below bb12 H11.lt
        have I12 := I11.below bb12 I11.lt
        have P12 := P11.below bb12 P11.lt
        have x12 := x11.below bb12 fun b hb h => hb
        have y12 := y11.below bb12 fun b hb h => hb
        have y12t := y11t.below bb12 fun b hb h => hb
        have b12' := b11'.trans (bb12.mono b11'.size)
        have ba12 := (Below.refl w12.heap.size w12).alloc (Nat.le_refl _) (.cells b.cs 55)
        have A13 := A12.below ba12 A12.lt
        have B13 := B12.below ba12 B12.lt
        have H13 := H12.below ba12 H12.lt
        have I13 := I12.below ba12 I12.lt
        have P13 := P12.below ba12 P12.lt
        have R13 := Blk.new w12 55 b.cs
        have x13 := x12.below ba12 fun b hb h => hb
        have y13 := y12.below ba12 fun b hb h => hb
        have y13t := y12t.below ba12 fun b hb h => hb
        have b13' := b12'.trans (ba12.mono b12'.size)
        clear A11 B11 H11 I11 P11 x11 y11 y11t b11' A12 B12 H12 I12 P12 x12 y12 y12t b12' bb12 ba12
        go_upto_region 13 with fail
        generalize w12.alloc (.cells b.cs 55) = w13 at *
        generalize w12.heap.size = rk at *
        have ca0 : w13.cell? ⟨w.heap.size, 0, none⟩ = some (.int .i64 a.v) := A13.cell 0
        have ca1 : w13.cell? ⟨w.heap.size, 1, none⟩ = some (.int .i64 a.s) := A13.cell 1
        have ca2 : w13.cell? ⟨w.heap.size, 2, none⟩ = some (.int .i64 a.g) := A13.cell 2
        have ca3 : w13.cell? ⟨w.heap.size, 3, none⟩ = some (.int .i64 a.u) := A13.cell 3
        have ca4 : w13.cell? ⟨w.heap.size, 4, none⟩ = some (.int .i64 a.j) := A13.cell 4
        have ca5 : w13.cell? ⟨w.heap.size, 5, none⟩ = some (.int .i64 a.nu) := A13.cell 5
        have ca6 : w13.cell? ⟨w.heap.size, 6, none⟩ = some (.int .i64 a.pg) := A13.cell 6
        have ca7 : w13.cell? ⟨w.heap.size, 7, none⟩ = some (.int .i64 a.rt) := A13.cell 7
        have ca8 : w13.cell? ⟨w.heap.size, 8, none⟩ = some (.int .i64 a.sn) := A13.cell 8
        have cb0 : w13.cell? ⟨w.heap.size + 1, 0, none⟩ = some (.int .i64 b.v) := B13.cell 0
        have cb1 : w13.cell? ⟨w.heap.size + 1, 1, none⟩ = some (.int .i64 b.s) := B13.cell 1
        have cb2 : w13.cell? ⟨w.heap.size + 1, 2, none⟩ = some (.int .i64 b.g) := B13.cell 2
        have cb3 : w13.cell? ⟨w.heap.size + 1, 3, none⟩ = some (.int .i64 b.u) := B13.cell 3
        have cb4 : w13.cell? ⟨w.heap.size + 1, 4, none⟩ = some (.int .i64 b.j) := B13.cell 4
        have cb5 : w13.cell? ⟨w.heap.size + 1, 5, none⟩ = some (.int .i64 b.nu) := B13.cell 5
        have cb6 : w13.cell? ⟨w.heap.size + 1, 6, none⟩ = some (.int .i64 b.pg) := B13.cell 6
        have cb7 : w13.cell? ⟨w.heap.size + 1, 7, none⟩ = some (.int .i64 b.rt) := B13.cell 7
        have cb8 : w13.cell? ⟨w.heap.size + 1, 8, none⟩ = some (.int .i64 b.sn) := B13.cell 8
        have ch0 : w13.cell? ⟨hk, 0, none⟩ = some (.int .i64 b.v) := H13.cell 0
        have ch1 : w13.cell? ⟨hk, 1, none⟩ = some (.int .i64 b.s) := H13.cell 1
        have ch2 : w13.cell? ⟨hk, 2, none⟩ = some (.int .i64 b.g) := H13.cell 2
        have ch3 : w13.cell? ⟨hk, 3, none⟩ = some (.int .i64 b.u) := H13.cell 3
        have ch4 : w13.cell? ⟨hk, 4, none⟩ = some (.int .i64 b.j) := H13.cell 4
        have ch5 : w13.cell? ⟨hk, 5, none⟩ = some (.int .i64 b.nu) := H13.cell 5
        have ch6 : w13.cell? ⟨hk, 6, none⟩ = some (.int .i64 b.pg) := H13.cell 6
        have ch7 : w13.cell? ⟨hk, 7, none⟩ = some (.int .i64 b.rt) := H13.cell 7
        have ch8 : w13.cell? ⟨hk, 8, none⟩ = some (.int .i64 b.sn) := H13.cell 8
        have ci0 : w13.cell? ⟨ik, 0, none⟩ = some (.int .i64 b.v) := I13.cell 0
        have ci1 : w13.cell? ⟨ik, 1, none⟩ = some (.int .i64 b.s) := I13.cell 1
        have ci2 : w13.cell? ⟨ik, 2, none⟩ = some (.int .i64 b.g) := I13.cell 2
        have ci3 : w13.cell? ⟨ik, 3, none⟩ = some (.int .i64 b.u) := I13.cell 3
        have ci4 : w13.cell? ⟨ik, 4, none⟩ = some (.int .i64 b.j) := I13.cell 4
        have ci5 : w13.cell? ⟨ik, 5, none⟩ = some (.int .i64 b.nu) := I13.cell 5
        have ci6 : w13.cell? ⟨ik, 6, none⟩ = some (.int .i64 b.pg) := I13.cell 6
        have ci7 : w13.cell? ⟨ik, 7, none⟩ = some (.int .i64 b.rt) := I13.cell 7
        have ci8 : w13.cell? ⟨ik, 8, none⟩ = some (.int .i64 b.sn) := I13.cell 8
        have cp0 : w13.cell? ⟨pk, 0, none⟩ = some (.int .i64 a.v) := P13.cell 0
        have cp1 : w13.cell? ⟨pk, 1, none⟩ = some (.int .i64 a.s) := P13.cell 1
        have cp2 : w13.cell? ⟨pk, 2, none⟩ = some (.int .i64 a.g) := P13.cell 2
        have cp3 : w13.cell? ⟨pk, 3, none⟩ = some (.int .i64 a.u) := P13.cell 3
        have cp4 : w13.cell? ⟨pk, 4, none⟩ = some (.int .i64 a.j) := P13.cell 4
        have cp5 : w13.cell? ⟨pk, 5, none⟩ = some (.int .i64 a.nu) := P13.cell 5
        have cp6 : w13.cell? ⟨pk, 6, none⟩ = some (.int .i64 a.pg) := P13.cell 6
        have cp7 : w13.cell? ⟨pk, 7, none⟩ = some (.int .i64 a.rt) := P13.cell 7
        have cp8 : w13.cell? ⟨pk, 8, none⟩ = some (.int .i64 a.sn) := P13.cell 8
        have cr0 : w13.cell? ⟨rk, 0, none⟩ = some (.int .i64 b.v) := R13.cell 0
        have cr1 : w13.cell? ⟨rk, 1, none⟩ = some (.int .i64 b.s) := R13.cell 1
        have cr2 : w13.cell? ⟨rk, 2, none⟩ = some (.int .i64 b.g) := R13.cell 2
        have cr3 : w13.cell? ⟨rk, 3, none⟩ = some (.int .i64 b.u) := R13.cell 3
        have cr4 : w13.cell? ⟨rk, 4, none⟩ = some (.int .i64 b.j) := R13.cell 4
        have cr5 : w13.cell? ⟨rk, 5, none⟩ = some (.int .i64 b.nu) := R13.cell 5
        have cr6 : w13.cell? ⟨rk, 6, none⟩ = some (.int .i64 b.pg) := R13.cell 6
        have cr7 : w13.cell? ⟨rk, 7, none⟩ = some (.int .i64 b.rt) := R13.cell 7
        have cr8 : w13.cell? ⟨rk, 8, none⟩ = some (.int .i64 b.sn) := R13.cell 8
        have ltA := A13.lt
        have ltB := B13.lt
        have ltH := H13.lt
        have ltI := I13.lt
        have ltP := P13.lt
        have ltR := R13.lt
        have HB := hide b13'
        clear A13 B13 H13 I13 P13 R13 x13 y13 y13t b13' H1 H2 H3 H4
        go_wp2
        go_ret
        exact ⟨rfl, HB.out.alloc HB.out.size _⟩
      · have HK1' := HK1.out
        have HK2' := HK2.out
        rw [if_neg (by omega)] at PAB
        rw [if_neg (by omega)] at PBA
        have D0 : (a.nu == b.nu) = true := by rw [beq_iff_eq]; exact h
        clear h
        rw [PAB] at HK1'
        rw [PBA] at HK2'
        have H1 := hide HK1'
        have H2 := hide HK2'
        clear HK1' HK2' PAB PBA HK1 HK2
        go_wp2_with fail
        refine (H1.out (some ⟨xb, xo, none⟩) (some ⟨yb, yo, none⟩) xc yc _ _ w5 x5 y5 hxc hyc).mono ?_
        rintro e w6 ⟨rfl, bb6⟩
        have A6 := A5.below bb6 A5.lt
        have B6 := B5.below bb6 B5.lt
        have x6 := x5.below bb6 fun b hb h => hb
        have y6 := y5.below bb6 fun b hb h => hb
        have y6t := y5t.below bb6 fun b hb h => hb
        have b6' := b5'.trans (bb6.mono b5'.size)
        have ba6 := (Below.refl w6.heap.size w6).alloc (Nat.le_refl _) (.cells a.cs 55)
        have A7 := A6.below ba6 A6.lt
        have B7 := B6.below ba6 B6.lt
        have H7 := Blk.new w6 55 a.cs
        have x7 := x6.below ba6 fun b hb h => hb
        have y7 := y6.below ba6 fun b hb h => hb
        have y7t := y6t.below ba6 fun b hb h => hb
        have b7' := b6'.trans (ba6.mono b6'.size)
        clear A5 B5 x5 y5 y5t b5' A6 B6 x6 y6 y6t b6' bb6 ba6
        go_wp2_with fail
        generalize w6.alloc (.cells a.cs 55) = w7 at *
        generalize w6.heap.size = hk at *
        refine (H2.out (some ⟨yb, yo, none⟩) (some ⟨xb, xo, none⟩) yc xc _ _ w7 y7 x7 hyc hxc).mono ?_
        rintro e w8 ⟨rfl, bb8⟩
        have A8 := A7.below bb8 A7.lt
        have B8 := B7.below bb8 B7.lt
        have H8 := H7.below bb8 H7.lt
        have x8 := x7.below bb8 fun b hb h => hb
        have y8 := y7.below bb8 fun b hb h => hb
        have y8t := y7t.below bb8 fun b hb h => hb
        have b8' := b7'.trans (bb8.mono b7'.size)
        have ba8 := (Below.refl w8.heap.size w8).alloc (Nat.le_refl _) (.cells b.cs 55)
        have A9 := A8.below ba8 A8.lt
        have B9 := B8.below ba8 B8.lt
        have H9 := H8.below ba8 H8.lt
        have I9 := Blk.new w8 55 b.cs
        have x9 := x8.below ba8 fun b hb h => hb
        have y9 := y8.below ba8 fun b hb h => hb
        have y9t := y8t.below ba8 fun b hb h => hb
        have b9' := b8'.trans (ba8.mono b8'.size)
        clear A7 B7 H7 x7 y7 y7t b7' A8 B8 H8 x8 y8 y8t b8' bb8 ba8
        go_wp2_with fail
        generalize w8.alloc (.cells b.cs 55) = w9 at *
        generalize w8.heap.size = ik at *
        refine (H3.out (some ⟨xb, xo, none⟩) (some ⟨yb, yo, none⟩) xc yc _ _ w9 x9 y9t hxc i5).mono ?_
        rintro e w10 ⟨rfl, bb10⟩
        have A10 := A9.below bb10 A9.lt
        have B10 := B9.below bb10 B9.lt
        have H10 := H9.below bb10 H9.lt
        have I10 := I9.below bb10 I9.lt
        have x10 := x9.below bb10 fun b hb h => hb
        have y10 := y9.below bb10 fun b hb h => hb
        have y10t := y9t.below bb10 fun b hb h => hb
        have b10' := b9'.trans (bb10.mono b9'.size)
        have ba10 := (Below.refl w10.heap.size w10).alloc (Nat.le_refl _) (.cells a.cs 55)
        have A11 := A10.below ba10 A10.lt
        have B11 := B10.below ba10 B10.lt
        have H11 := H10.below ba10 H10.lt
        have I11 := I10.below ba10 I10.lt
        have P11 := Blk.new w10 55 a.cs
        have x11 := x10.below ba10 fun b hb h => hb
        have y11 := y10.below ba10 fun b hb h => hb
        have y11t := y10t.below ba10 fun b hb h => hb
        have b11' := b10'.trans (ba10.mono b10'.size)
        clear A9 B9 H9 I9 x9 y9 y9t b9' A10 B10 H10 I10 x10 y10 y10t b10' bb10 ba10
        go_wp2_with fail
        generalize w10.alloc (.cells a.cs 55) = w11 at *
        generalize w10.heap.size = pk at *
        refine (H4.out (some ⟨yb, yo, none⟩) yc _ w11 y11 hyc).mono ?_
        rintro e w12 ⟨rfl, bb12⟩
        have A12 := A11.below bb12 A11.lt
        have B12 := B11.below bb12 B11.lt
        have H12 := H11.below bb12 H11.lt
        have I12 := I11.below bb12 I11.lt
        have P12 := P11.below bb12 P11.lt
        have x12 := x11.below bb12 fun b hb h => hb
        have y12 := y11.below bb12 fun b hb h => hb
        have y12t := y11t.below bb12 fun b hb h => hb
        have b12' := b11'.trans (bb12.mono b11'.size)
        have ba12 := (Below.refl w12.heap.size w12).alloc (Nat.le_refl _) (.cells b.cs 55)
        have A13 := A12.below ba12 A12.lt
        have B13 := B12.below ba12 B12.lt
        have H13 := H12.below ba12 H12.lt
        have I13 := I12.below ba12 I12.lt
        have P13 := P12.below ba12 P12.lt
        have R13 := Blk.new w12 55 b.cs
        have x13 := x12.below ba12 fun b hb h => hb
        have y13 := y12.below ba12 fun b hb h => hb
        have y13t := y12t.below ba12 fun b hb h => hb
        have b13' := b12'.trans (ba12.mono b12'.size)
        clear A11 B11 H11 I11 P11 x11 y11 y11t b11' A12 B12 H12 I12 P12 x12 y12 y12t b12' bb12 ba12
        go_upto_region 13 with fail
        generalize w12.alloc (.cells b.cs 55) = w13 at *
        generalize w12.heap.size = rk at *
        have ca0 : w13.cell? ⟨w.heap.size, 0, none⟩ = some (.int .i64 a.v) := A13.cell 0
        have ca1 : w13.cell? ⟨w.heap.size, 1, none⟩ = some (.int .i64 a.s) := A13.cell 1
        have ca2 : w13.cell? ⟨w.heap.size, 2, none⟩ = some (.int .i64 a.g) := A13.cell 2
        have ca3 : w13.cell? ⟨w.heap.size, 3, none⟩ = some (.int .i64 a.u) := A13.cell 3
        have ca4 : w13.cell? ⟨w.heap.size, 4, none⟩ = some (.int .i64 a.j) := A13.cell 4
        have ca5 : w13.cell? ⟨w.heap.size, 5, none⟩ = some (.int .i64 a.nu) := A13.cell 5
        have ca6 : w13.cell? ⟨w.heap.size, 6, none⟩ = some (.int .i64 a.pg) := A13.cell 6
        have ca7 : w13.cell? ⟨w.heap.size, 7, none⟩ = some (.int .i64 a.rt) := A13.cell 7
        have ca8 : w13.cell? ⟨w.heap.size, 8, none⟩ = some (.int .i64 a.sn) := A13.cell 8
        have cb0 : w13.cell? ⟨w.heap.size + 1, 0, none⟩ = some (.int .i64 b.v) := B13.cell 0
        have cb1 : w13.cell? ⟨w.heap.size + 1, 1, none⟩ = some (.int .i64 b.s) := B13.cell 1
        have cb2 : w13.cell? ⟨w.heap.size + 1, 2, none⟩ = some (.int .i64 b.g) := B13.cell 2
        have cb3 : w13.cell? ⟨w.heap.size + 1, 3, none⟩ = some (.int .i64 b.u) := B13.cell 3
        have cb4 : w13.cell? ⟨w.heap.size + 1, 4, none⟩ = some (.int .i64 b.j) := B13.cell 4
        have cb5 : w13.cell? ⟨w.heap.size + 1, 5, none⟩ = some (.int .i64 b.nu) := B13.cell 5
        have cb6 : w13.cell? ⟨w.heap.size + 1, 6, none⟩ = some (.int .i64 b.pg) := B13.cell 6
        have cb7 : w13.cell? ⟨w.heap.size + 1, 7, none⟩ = some (.int .i64 b.rt) := B13.cell 7
        have cb8 : w13.cell? ⟨w.heap.size + 1, 8, none⟩ = some (.int .i64 b.sn) := B13.cell 8
        have ch0 : w13.cell? ⟨hk, 0, none⟩ = some (.int .i64 a.v) := H13.cell 0
        have ch1 : w13.cell? ⟨hk, 1, none⟩ = some (.int .i64 a.s) := H13.cell 1
        have ch2 : w13.cell? ⟨hk, 2, none⟩ = some (.int .i64 a.g) := H13.cell 2
        have ch3 : w13.cell? ⟨hk, 3, none⟩ = some (.int .i64 a.u) := H13.cell 3
        have ch4 : w13.cell? ⟨hk, 4, none⟩ = some (.int .i64 a.j) := H13.cell 4
        have ch5 : w13.cell? ⟨hk, 5, none⟩ = some (.int .i64 a.nu) := H13.cell 5
        have ch6 : w13.cell? ⟨hk, 6, none⟩ = some (.int .i64 a.pg) := H13.cell 6
        have ch7 : w13.cell? ⟨hk, 7, none⟩ = some (.int .i64 a.rt) := H13.cell 7
        have ch8 : w13.cell? ⟨hk, 8, none⟩ = some (.int .i64 a.sn) := H13.cell 8
        have ci0 : w13.cell? ⟨ik, 0, none⟩ = some (.int .i64 b.v) := I13.cell 0
        have ci1 : w13.cell? ⟨ik, 1, none⟩ = some (.int .i64 b.s) := I13.cell 1
        have ci2 : w13.cell? ⟨ik, 2, none⟩ = some (.int .i64 b.g) := I13.cell 2
        have ci3 : w13.cell? ⟨ik, 3, none⟩ = some (.int .i64 b.u) := I13.cell 3
        have ci4 : w13.cell? ⟨ik, 4, none⟩ = some (.int .i64 b.j) := I13.cell 4
        have ci5 : w13.cell? ⟨ik, 5, none⟩ = some (.int .i64 b.nu) := I13.cell 5
        have ci6 : w13.cell? ⟨ik, 6, none⟩ = some (.int .i64 b.pg) := I13.cell 6
        have ci7 : w13.cell? ⟨ik, 7, none⟩ = some (.int .i64 b.rt) := I13.cell 7
        have ci8 : w13.cell? ⟨ik, 8, none⟩ = some (.int .i64 b.sn) := I13.cell 8
        have cp0 : w13.cell? ⟨pk, 0, none⟩ = some (.int .i64 a.v) := P13.cell 0
        have cp1 : w13.cell? ⟨pk, 1, none⟩ = some (.int .i64 a.s) := P13.cell 1
        have cp2 : w13.cell? ⟨pk, 2, none⟩ = some (.int .i64 a.g) := P13.cell 2
        have cp3 : w13.cell? ⟨pk, 3, none⟩ = some (.int .i64 a.u) := P13.cell 3
        have cp4 : w13.cell? ⟨pk, 4, none⟩ = some (.int .i64 a.j) := P13.cell 4
        have cp5 : w13.cell? ⟨pk, 5, none⟩ = some (.int .i64 a.nu) := P13.cell 5
        have cp6 : w13.cell? ⟨pk, 6, none⟩ = some (.int .i64 a.pg) := P13.cell 6
        have cp7 : w13.cell? ⟨pk, 7, none⟩ = some (.int .i64 a.rt) := P13.cell 7
        have cp8 : w13.cell? ⟨pk, 8, none⟩ = some (.int .i64 a.sn) := P13.cell 8
        have cr0 : w13.cell? ⟨rk, 0, none⟩ = some (.int .i64 b.v) := R13.cell 0
        have cr1 : w13.cell? ⟨rk, 1, none⟩ = some (.int .i64 b.s) := R13.cell 1
        have cr2 : w13.cell? ⟨rk, 2, none⟩ = some (.int .i64 b.g) := R13.cell 2
        have cr3 : w13.cell? ⟨rk, 3, none⟩ = some (.int .i64 b.u) := R13.cell 3
        have cr4 : w13.cell? ⟨rk, 4, none⟩ = some (.int .i64 b.j) := R13.cell 4
        have cr5 : w13.cell? ⟨rk, 5, none⟩ = some (.int .i64 b.nu) := R13.cell 5
        have cr6 : w13.cell? ⟨rk, 6, none⟩ = some (.int .i64 b.pg) := R13.cell 6
        have cr7 : w13.cell? ⟨rk, 7, none⟩ = some (.int .i64 b.rt) := R13.cell 7
        have cr8 : w13.cell? ⟨rk, 8, none⟩ = some (.int .i64 b.sn) := R13.cell 8
        have ltA := A13.lt
        have ltB := B13.lt
        have ltH := H13.lt
        have ltI := I13.lt
        have ltP := P13.lt
        have ltR := R13.lt
        have HB := hide b13'
        clear A13 B13 H13 I13 P13 R13 x13 y13 y13t b13' H1 H2 H3 H4
        go_wp2
        go_ret
        exact ⟨rfl, HB.out⟩
      · have HK1' := HK1.out
        have HK2' := HK2.out
        rw [if_neg (by omega)] at PAB
        rw [if_pos h] at PBA
        have D0 : (a.nu == b.nu) = false := by rw [beq_eq_false_iff_ne]; omega
        have D1 : decide (a.nu < b.nu) = false := decide_eq_false (by omega)
        clear h
        rw [PAB] at HK1'
        rw [PBA] at HK2'
        have H1 := hide HK1'
        have H2 := hide HK2'
        clear HK1' HK2' PAB PBA HK1 HK2
        go_wp2_with fail
        refine (H1.out (some ⟨xb, xo, none⟩) (some ⟨yb, yo, none⟩) xc yc _ _ w5 x5 y5 hxc hyc).mono ?_
        rintro e w6 ⟨rfl, bb6⟩
        have A6 := A5.below bb6 A5.lt
        have B6 := B5.below bb6 B5.lt
        have x6 := x5.below bb6 fun b hb h => hb
        have y6 := y5.below bb6 fun b hb h => hb
        have y6t := y5t.below bb6 fun b hb h => hb
        have b6' := b5'.trans (bb6.mono b5'.size)
        have ba6 := (Below.refl w6.heap.size w6).alloc (Nat.le_refl _) (.cells a.cs 55)
        have A7 := A6.below ba6 A6.lt
        have B7 := B6.below ba6 B6.lt
        have H7 := Blk.new w6 55 a.cs
        have x7 := x6.below ba6 fun b hb h => hb
        have y7 := y6.below ba6 fun b hb h => hb
        have y7t := y6t.below ba6 fun b hb h => hb
        have b7' := b6'.trans (ba6.mono b6'.size)
        clear A5 B5 x5 y5 y5t b5' A6 B6 x6 y6 y6t b6' bb6 ba6
        go_wp2_with fail
        generalize w6.alloc (.cells a.cs 55) = w7 at *
        generalize w6.heap.size = hk at *
        refine (H2.out (some ⟨yb, yo, none⟩) (some ⟨xb, xo, none⟩) yc xc _ _ w7 y7 x7 hyc hxc).mono ?_
        rintro e w8 ⟨rfl, bb8⟩
        have A8 := A7.below bb8 A7.lt
        have B8 := B7.below bb8 B7.lt
        have H8 := H7.below bb8 H7.lt
        have x8 := x7.below bb8 fun b hb h => hb
        have y8 := y7.below bb8 fun b hb h => hb
        have y8t := y7t.below bb8 fun b hb h => hb
        have b8' := b7'.trans (bb8.mono b7'.size)
        have ba8 := (Below.refl w8.heap.size w8).alloc (Nat.le_refl _) (.cells a.cs 55)
        have A9 := A8.below ba8 A8.lt
        have B9 := B8.below ba8 B8.lt
        have H9 := H8.below ba8 H8.lt
        have I9 := Blk.new w8 55 a.cs
        have x9 := x8.below ba8 fun b hb h => hb
        have y9 := y8.below ba8 fun b hb h => hb
        have y9t := y8t.below ba8 fun b hb h => hb
        have b9' := b8'.trans (ba8.mono b8'.size)
        clear A7 B7 H7 x7 y7 y7t b7' A8 B8 H8 x8 y8 y8t b8' bb8 ba8
        go_wp2_with fail
        generalize w8.alloc (.cells a.cs 55) = w9 at *
        generalize w8.heap.size = ik at *
        refine (H3.out (some ⟨xb, xo, none⟩) (some ⟨yb, yo, none⟩) xc yc _ _ w9 x9 y9t hxc i5).mono ?_
        rintro e w10 ⟨rfl, bb10⟩
        have A10 := A9.below bb10 A9.lt
        have B10 := B9.below bb10 B9.lt
        have H10 := H9.below bb10 H9.lt
        have I10 := I9.below bb10 I9.lt
        have x10 := x9.below bb10 fun b hb h => hb
        have y10 := y9.below bb10 fun b hb h => hb
        have y10t := y9t.below bb10 fun b hb h => hb
        have b10' := b9'.trans (bb10.mono b9'.size)
        have ba10 := (Below.refl w10.heap.size w10).alloc (Nat.le_refl _) (.cells a.cs 55)
        have A11 := A10.below ba10 A10.lt
        have B11 := B10.below ba10 B10.lt
        have H11 := H10.below ba10 H10.lt
        have I11 := I10.below ba10 I10.lt
        have P11 := Blk.new w10 55 a.cs
        have x11 := x10.below ba10 fun b hb h => hb
        have y11 := y10.below ba10 fun b hb h => hb
        have y11t := y10t.below ba10 fun b hb h => hb
        have b11' := b10'.trans (ba10.mono b10'.size)
        clear A9 B9 H9 I9 x9 y9 y9t b9' A10 B10 H10 I10 x10 y10 y10t b10' bb10 ba10
        go_wp2_with fail
        generalize w10.alloc (.cells a.cs 55) = w11 at *
        generalize w10.heap.size = pk at *
        refine (H4.out (some ⟨yb, yo, none⟩) yc _ w11 y11 hyc).mono ?_
        rintro e w12 ⟨rfl, bb12⟩
        have A12 := A11.below bb12 A11.lt
        have B12 := B11.below bb12 B11.lt
        have H12 := H11.below bb12 H11.lt
        have I12 := I11.below bb12 I11.lt
        have P12 := P11.below bb12 P11.lt
        have x12 := x11.below bb12 fun b hb h => hb
        have y12 := y11.below bb12 fun b hb h => hb
        have y12t := y11t.below bb12 fun b hb h => hb
        have b12' := b11'.trans (bb12.mono b11'.size)
        have ba12 := (Below.refl w12.heap.size w12).alloc (Nat.le_refl _) (.cells b.cs 55)
        have A13 := A12.below ba12 A12.lt
        have B13 := B12.below ba12 B12.lt
        have H13 := H12.below ba12 H12.lt
        have I13 := I12.below ba12 I12.lt
        have P13 := P12.below ba12 P12.lt
        have R13 := Blk.new w12 55 b.cs
        have x13 := x12.below ba12 fun b hb h => hb
        have y13 := y12.below ba12 fun b hb h => hb
        have y13t := y12t.below ba12 fun b hb h => hb
        have b13' := b12'.trans (ba12.mono b12'.size)
        clear A11 B11 H11 I11 P11 x11 y11 y11t b11' A12 B12 H12 I12 P12 x12 y12 y12t b12' bb12 ba12
        go_upto_region 13 with fail
        generalize w12.alloc (.cells b.cs 55) = w13 at *
        generalize w12.heap.size = rk at *
        have ca0 : w13.cell? ⟨w.heap.size, 0, none⟩ = some (.int .i64 a.v) := A13.cell 0
        have ca1 : w13.cell? ⟨w.heap.size, 1, none⟩ = some (.int .i64 a.s) := A13.cell 1
        have ca2 : w13.cell? ⟨w.heap.size, 2, none⟩ = some (.int .i64 a.g) := A13.cell 2
        have ca3 : w13.cell? ⟨w.heap.size, 3, none⟩ = some (.int .i64 a.u) := A13.cell 3
        have ca4 : w13.cell? ⟨w.heap.size, 4, none⟩ = some (.int .i64 a.j) := A13.cell 4
        have ca5 : w13.cell? ⟨w.heap.size, 5, none⟩ = some (.int .i64 a.nu) := A13.cell 5
        have ca6 : w13.cell? ⟨w.heap.size, 6, none⟩ = some (.int .i64 a.pg) := A13.cell 6
        have ca7 : w13.cell? ⟨w.heap.size, 7, none⟩ = some (.int .i64 a.rt) := A13.cell 7
        have ca8 : w13.cell? ⟨w.heap.size, 8, none⟩ = some (.int .i64 a.sn) := A13.cell 8
        have cb0 : w13.cell? ⟨w.heap.size + 1, 0, none⟩ = some (.int .i64 b.v) := B13.cell 0
        have cb1 : w13.cell? ⟨w.heap.size + 1, 1, none⟩ = some (.int .i64 b.s) := B13.cell 1
        have cb2 : w13.cell? ⟨w.heap.size + 1, 2, none⟩ = some (.int .i64 b.g) := B13.cell 2
        have cb3 : w13.cell? ⟨w.heap.size + 1, 3, none⟩ = some (.int .i64 b.u) := B13.cell 3
        have cb4 : w13.cell? ⟨w.heap.size + 1, 4, none⟩ = some (.int .i64 b.j) := B13.cell 4
        have cb5 : w13.cell? ⟨w.heap.size + 1, 5, none⟩ = some (.int .i64 b.nu) := B13.cell 5
        have cb6 : w13.cell? ⟨w.heap.size + 1, 6, none⟩ = some (.int .i64 b.pg) := B13.cell 6
        have cb7 : w13.cell? ⟨w.heap.size + 1, 7, none⟩ = some (.int .i64 b.rt) := B13.cell 7
        have cb8 : w13.cell? ⟨w.heap.size + 1, 8, none⟩ = some (.int .i64 b.sn) := B13.cell 8
        have ch0 : w13.cell? ⟨hk, 0, none⟩ = some (.int .i64 a.v) := H13.cell 0
        have ch1 : w13.cell? ⟨hk, 1, none⟩ = some (.int .i64 a.s) := H13.cell 1
        have ch2 : w13.cell? ⟨hk, 2, none⟩ = some (.int .i64 a.g) := H13.cell 2
        have ch3 : w13.cell? ⟨hk, 3, none⟩ = some (.int .i64 a.u) := H13.cell 3
        have ch4 : w13.cell? ⟨hk, 4, none⟩ = some (.int .i64 a.j) := H13.cell 4
        have ch5 : w13.cell? ⟨hk, 5, none⟩ = some (.int .i64 a.nu) := H13.cell 5
        have ch6 : w13.cell? ⟨hk, 6, none⟩ = some (.int .i64 a.pg) := H13.cell 6
        have ch7 : w13.cell? ⟨hk, 7, none⟩ = some (.int .i64 a.rt) := H13.cell 7
        have ch8 : w13.cell? ⟨hk, 8, none⟩ = some (.int .i64 a.sn) := H13.cell 8
        have ci0 : w13.cell? ⟨ik, 0, none⟩ = some (.int .i64 a.v) := I13.cell 0
        have ci1 : w13.cell? ⟨ik, 1, none⟩ = some (.int .i64 a.s) := I13.cell 1
        have ci2 : w13.cell? ⟨ik, 2, none⟩ = some (.int .i64 a.g) := I13.cell 2
        have ci3 : w13.cell? ⟨ik, 3, none⟩ = some (.int .i64 a.u) := I13.cell 3
        have ci4 : w13.cell? ⟨ik, 4, none⟩ = some (.int .i64 a.j) := I13.cell 4
        have ci5 : w13.cell? ⟨ik, 5, none⟩ = some (.int .i64 a.nu) := I13.cell 5
        have ci6 : w13.cell? ⟨ik, 6, none⟩ = some (.int .i64 a.pg) := I13.cell 6
        have ci7 : w13.cell? ⟨ik, 7, none⟩ = some (.int .i64 a.rt) := I13.cell 7
        have ci8 : w13.cell? ⟨ik, 8, none⟩ = some (.int .i64 a.sn) := I13.cell 8
        have cp0 : w13.cell? ⟨pk, 0, none⟩ = some (.int .i64 a.v) := P13.cell 0
        have cp1 : w13.cell? ⟨pk, 1, none⟩ = some (.int .i64 a.s) := P13.cell 1
        have cp2 : w13.cell? ⟨pk, 2, none⟩ = some (.int .i64 a.g) := P13.cell 2
        have cp3 : w13.cell? ⟨pk, 3, none⟩ = some (.int .i64 a.u) := P13.cell 3
        have cp4 : w13.cell? ⟨pk, 4, none⟩ = some (.int .i64 a.j) := P13.cell 4
        have cp5 : w13.cell? ⟨pk, 5, none⟩ = some (.int .i64 a.nu) := P13.cell 5
        have cp6 : w13.cell? ⟨pk, 6, none⟩ = some (.int .i64 a.pg) := P13.cell 6
        have cp7 : w13.cell? ⟨pk, 7, none⟩ = some (.int .i64 a.rt) := P13.cell 7
        have cp8 : w13.cell? ⟨pk, 8, none⟩ = some (.int .i64 a.sn) := P13.cell 8
        have cr0 : w13.cell? ⟨rk, 0, none⟩ = some (.int .i64 b.v) := R13.cell 0
        have cr1 : w13.cell? ⟨rk, 1, none⟩ = some (.int .i64 b.s) := R13.cell 1
        have cr2 : w13.cell? ⟨rk, 2, none⟩ = some (.int .i64 b.g) := R13.cell 2
        have cr3 : w13.cell? ⟨rk, 3, none⟩ = some (.int .i64 b.u) := R13.cell 3
        have cr4 : w13.cell? ⟨rk, 4, none⟩ = some (.int .i64 b.j) := R13.cell 4
        have cr5 : w13.cell? ⟨rk, 5, none⟩ = some (.int .i64 b.nu) := R13.cell 5
        have cr6 : w13.cell? ⟨rk, 6, none⟩ = some (.int .i64 b.pg) := R13.cell 6
        have cr7 : w13.cell? ⟨rk, 7, none⟩ = some (.int .i64 b.rt) := R13.cell 7
        have cr8 : w13.cell? ⟨rk, 8, none⟩ = some (.int .i64 b.sn) := R13.cell 8
        have ltA := A13.lt
        have ltB := B13.lt
        have ltH := H13.lt
        have ltI := I13.lt
        have ltP := P13.lt
        have ltR := R13.lt
        have HB := hide b13'
        clear A13 B13 H13 I13 P13 R13 x13 y13 y13t b13' H1 H2 H3 H4
        go_wp2
        go_ret
        exact ⟨rfl, HB.out.alloc HB.out.size _⟩
    · go_wp2_with fail
      refine (hput_none b hb w4).mono ?_
      rintro e w5 ⟨⟨yA, yc, rfl⟩, b5⟩
      go_wp2
      go_ret
      exact ⟨rfl, b4'.trans (b5.mono b4'.size)⟩
  · go_wp2_with fail
    refine (hput_none a ha w3).mono ?_
    rintro e w4 ⟨⟨xA, xc, rfl⟩, b4⟩
    have B4 := B3.below b4 B3.lt
    have b4' := b3'.trans (b4.mono b3'.size)
    have q0 : w4.cell? ⟨w.heap.size + 1, 0, none⟩ = some (.int .i64 b.v) := B4.cell 0
    have q1 : w4.cell? ⟨w.heap.size + 1, 1, none⟩ = some (.int .i64 b.s) := B4.cell 1
    have q2 : w4.cell? ⟨w.heap.size + 1, 2, none⟩ = some (.int .i64 b.g) := B4.cell 2
    have q3 : w4.cell? ⟨w.heap.size + 1, 3, none⟩ = some (.int .i64 b.u) := B4.cell 3
    have q4 : w4.cell? ⟨w.heap.size + 1, 4, none⟩ = some (.int .i64 b.j) := B4.cell 4
    have q5 : w4.cell? ⟨w.heap.size + 1, 5, none⟩ = some (.int .i64 b.nu) := B4.cell 5
    have q6 : w4.cell? ⟨w.heap.size + 1, 6, none⟩ = some (.int .i64 b.pg) := B4.cell 6
    have q7 : w4.cell? ⟨w.heap.size + 1, 7, none⟩ = some (.int .i64 b.rt) := B4.cell 7
    have q8 : w4.cell? ⟨w.heap.size + 1, 8, none⟩ = some (.int .i64 b.sn) := B4.cell 8
    go_wp2_with fail
    refine (hput_any b.v b.s b.g b.u b.j b.nu b.pg b.rt b.sn w4).mono ?_
    rintro e w5 ⟨A5, c5, rfl, _, _, b5⟩
    go_wp2
    go_ret
    exact ⟨rfl, b4'.trans (b5.mono b4'.size)⟩
end Go.Proofs.Ytdkcjmpikmnedaa
