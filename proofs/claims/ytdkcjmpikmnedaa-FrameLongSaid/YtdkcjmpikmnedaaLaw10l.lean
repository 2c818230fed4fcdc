/- FrameLong, walked. -/
import Derived.Test.YtdkcjmpikmnedaaLaw10
namespace Go.Proofs.Ytdkcjmpikmnedaa
open Go.RowKit

set_option maxHeartbeats 400000 in
theorem frameLong_any (less : Int) (x : B8) (w : World) : Calls Try.prog 14 #[.int .i64 less, .int .u8 (x.toNat : Int)] w fun r w' => r = .returned (.bool true) ∧ Below w.heap.size w w' := by
  obtain ⟨hp0, hp1⟩ := pick_range less 3 (by omega)
  obtain ⟨n, hn⟩ : ∃ n : Nat, 32769 - pick less 3 = (n : Int) := ⟨(32769 - pick less 3).toNat, by omega⟩
  have hn1 : n ≤ 32769 := by omega
  have hn2 : 32767 ≤ n := by omega
  have HP := pick_any less 3
  generalize pick less 3 = q at *
  go_enter Try.func14, Try.ntmps14
  go_wp2_with fail
  refine (awake10_any w).mono ?_
  rintro r w1 ⟨rfl, b1⟩
  go_wp2_with (first | (with_reducible refine stop_make ?_) | (go_at_call 30; refine (HP _ (by omega)).mono ?_; rintro r w' ⟨rfl, rfl⟩))
  unfold Stopped
  refine wpList_make_u8_full rfl _ _ rfl _ _ n rfl rfl (by omega) (by omega) (by omega) ?_
  intro w2 row2 g2
  have b2 := b1.trans ((below_of_none g2).mono b1.size)
  have hg1 := b1.size
  generalize w1.heap.size = g at *
  clear g2 b1
  have hl2 := row2.lt
  have k2 := row2.cell (n - 1) (by simp; omega)
  have f2 := row2.frozen (n - 1)
  obtain ⟨row3, g3⟩ := row2.stored (n - 1) x
  go_wp2_with fail
  have b3 := b2.trans (below_of_only g3 hg1 b2.size)
  have hg3 : g < (w2.setCell ⟨g, n - 1, none⟩ (.int .u8 (x.toNat : Int))).heap.size := row3.lt
  have hdl : ((List.replicate n 0#8).set (n - 1) x).length = n := by simp
  have z3 : (w2.setCell ⟨g, n - 1, none⟩ (.int .u8 (x.toNat : Int))).heap.size = w2.heap.size := by simp [World.setCell]
  generalize (List.replicate n 0#8).set (n - 1) x = d at *
  generalize w2.setCell ⟨g, n - 1, none⟩ (.int .u8 (x.toNat : Int)) = w3 at *
  clear k2 f2 row2 b2 g3 hl2
  have b4 := b3.alloc b3.size (.cells #[.int .i64 255, .int .i64 1099511627776, .int .i64 1099511627776, .slice (some ⟨g, 0, none⟩) n n] 68)
  have row4 := row3.alloc (.cells #[.int .i64 255, .int .i64 1099511627776, .int .i64 1099511627776, .slice (some ⟨g, 0, none⟩) n n] 68)
  have B4 := Blk.new w3 68 #[.int .i64 255, .int .i64 1099511627776, .int .i64 1099511627776, .slice (some ⟨g, 0, none⟩) n n]
  rw [z3] at B4
  generalize w3.alloc (.cells #[.int .i64 255, .int .i64 1099511627776, .int .i64 1099511627776, .slice (some ⟨g, 0, none⟩) n n] 68) = w4 at *
  clear b3 row3
  by_cases hbig : 32768 < n
  · have D : decide (32768 < (n : Int)) = true := decide_eq_true (by omega)
    refine (put_long 255 1099511627776 1099511627776 (some ⟨g, 0, none⟩) n n w4 (by decide) hbig (by omega)).mono ?_
    rintro r w5 ⟨rfl, b5⟩
    go_wp2
    go_ret
    exact ⟨rfl, b4.trans (b5.mono b4.size)⟩
  · have D : decide (32768 < (n : Int)) = false := decide_eq_false (by omega)
    refine (put_at 255 1099511627776 1099511627776 n (some ⟨g, 0, none⟩) n d _ w4 hdl (by decide) (by decide) (by decide) (by omega) (row4.rd (P := fun _ => True) trivial)).mono ?_
    rintro r w5 ⟨h, hh, rfl, row5, b5⟩
    have B5 := B4.below b5 B4.lt
    have d5 := row4.below b5 row4.lt
    have b5' := b4.trans (b5.mono b4.size)
    have hfl : (frameBytes 255 1099511627776 1099511627776 d).length = 512 * sectors n := by rw [frameBytes_length, hdl]
    have hsz : 512 * sectors n ≤ 34000 := by unfold sectors; omega
    clear B4 row4 b4 b5
    go_wp2_with fail
    refine (get_put 255 1099511627776 1099511627776 n (512 * sectors n) (some ⟨h, 0, none⟩) (512 * sectors n) d [] (fun _ => True) w5 (by decide) (by decide) (by decide) hdl (by omega) (by rw [List.append_nil]; exact hfl) (by rw [List.append_nil]; exact row5.rd trivial) (by omega) (Nat.le_refl _)).mono ?_
    rintro r w6 ⟨A6, n6, rfl, r6, own6, b6⟩
    have B6 := B5.below b6 B5.lt
    have d6 := d5.below b6 d5.lt
    have b6' := b5'.trans (b6.mono b5'.size)
    clear B5 d5 b5' b6 own6
    have hw6 := B6.lt
    have c0 : w6.cell? ⟨w2.heap.size, 0, none⟩ = some (.int .i64 255) := B6.cell 0
    have c1 : w6.cell? ⟨w2.heap.size, 1, none⟩ = some (.int .i64 1099511627776) := B6.cell 1
    have c2 : w6.cell? ⟨w2.heap.size, 2, none⟩ = some (.int .i64 1099511627776) := B6.cell 2
    have c3 : w6.cell? ⟨w2.heap.size, 3, none⟩ = some (.slice (some ⟨g, 0, none⟩) n n) := B6.cell 3
    have b7 := (Below.refl w6.heap.size w6).alloc (Nat.le_refl _) (.cells #[.int .i64 255, .int .i64 1099511627776, .int .i64 1099511627776, .slice A6 n n6] 68)
    have e7 : Rd (w6.alloc (.cells #[.int .i64 255, .int .i64 1099511627776, .int .i64 1099511627776, .slice A6 n n6] 68)) (· < w6.heap.size) A6 (bs d) := (r6.imp (Q := (· < w6.heap.size)) fun b hb _ => hb).below b7 fun b hb _ => hb
    have d7 := d6.alloc (.cells #[.int .i64 255, .int .i64 1099511627776, .int .i64 1099511627776, .slice A6 n n6] 68)
    have SF := sameFrame_at 255 1099511627776 1099511627776 (some ⟨g, 0, none⟩) A6 n n6 n d (fun _ => True) _ hdl _ (d7.rd trivial) e7 (by omega)
    have HF := hide SF
    clear SF d7 e7
    go_wp2_with (go_at_call 46; refine HF.out.mono ?_; rintro r w7 ⟨rfl, b8⟩)
    go_ret
    exact ⟨rfl, (b6'.trans (b7.mono b6'.size)).trans (b8.mono (by have := b6'.size; simp; omega))⟩
end Go.Proofs.Ytdkcjmpikmnedaa
