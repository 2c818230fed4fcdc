/- The statements of layer 2, walked. -/
import Derived.Test.YtdkcjmpikmnedaaCrc
import Derived.Test.YtdkcjmpikmnedaaKit
import Derived.Lib.SlBytesConst
namespace Go.Proofs.Ytdkcjmpikmnedaa
open Go.RowKit

def digits : List B8 := [49#8, 50#8, 51#8, 52#8, 53#8, 54#8, 55#8, 56#8, 57#8]
theorem crc_digits : crcOf castagnoli 0#32 digits = 0xE3069283#32 := by decide +kernel
theorem crc_empty : crcOf castagnoli 0#32 [] = 0#32 := by decide +kernel
theorem crc_one : crcOf castagnoli 0#32 [0#8] = 0x527D5351#32 := by decide +kernel
theorem crc_ieee : crcOf 0xEDB88320#32 0#32 digits = 0xCBF43926#32 := by decide +kernel

set_option maxHeartbeats 400000 in
theorem awake_any (w : World) : Calls Try.prog 20 #[] w fun e w' => e = .returned (.bool true) ∧ Below w.heap.size w w' := by
  have kc := fun (w : World) (C : Array Value) (n c : Nat) => Lib.run_convert_bytes_const (P := Try.prog) w 23 5 C n c Try.underlying23 Try.underlying5
  go_enter Try.func20, Try.ntmps20
  go_wp2_with fail
  have R0 : Rd (w.alloc (.cells (bs digits).toArray 5 (9, 10))) (fun b => b = w.heap.size) (some ⟨w.heap.size, 0, none⟩) (bs digits) := rd_alloc w 5 (bs digits).toArray (9, 10) (bs digits) rfl (fun b => b = w.heap.size) rfl
  have hb0 : Below w.heap.size w (w.alloc (.cells (bs digits).toArray 5 (9, 10))) := (Below.refl _ _).alloc (Nat.le_refl _) _
  have S1 := sum_any (some ⟨w.heap.size, 0, none⟩) 9 digits (fun b => b = w.heap.size) _ R0 (by decide)
  rw [crc_digits] at S1
  refine S1.mono ?_
  rintro e w1 ⟨rfl, hb1⟩
  clear S1
  have R1 := R0.below hb1 (fun b hb _ => hb)
  have hB1 : Below w.heap.size w w1 := hb0.trans (hb1.mono (by simp))
  clear R0 hb1 hb0
  go_wp2_with fail
  have S2 := sum_any none 0 [] (fun _ => True) w1 Rd.nil (by decide)
  rw [crc_empty] at S2
  refine S2.mono ?_
  rintro e w2 ⟨rfl, hb2⟩
  clear S2
  have R2 := R1.below hb2 (fun b hb _ => hb)
  have hB2 := hB1.trans (hb2.mono hB1.size)
  clear R1 hB1 hb2
  go_wp2_with fail
  have S3 := sum_any (some ⟨w2.heap.size, 0, none⟩) 1 [0#8] (fun _ => True) _ (rd_one w2 0#8 _ trivial) (by decide)
  rw [crc_one] at S3
  refine S3.mono ?_
  rintro e w3 ⟨rfl, hb3⟩
  clear S3
  have hb3' : Below w2.heap.size w2 w3 := ((Below.refl _ _).alloc (Nat.le_refl _) _).trans (hb3.mono (by simp))
  have R3 := R2.below hb3' (fun b hb _ => hb)
  have hB3 := hB2.trans (hb3'.mono hB2.size)
  clear R2 hB2 hb3 hb3'
  go_wp2_with fail
  refine (new_any 0xEDB88320#32 w3).mono ?_
  rintro e w4 ⟨rfl, hw4⟩
  have T4 : IsTab w4 w3.heap.size 0xEDB88320#32 := hw4 ▸ isTab_new _ w3
  have hb4 : Below w3.heap.size w3 w4 := hw4 ▸ (Below.refl _ _).alloc (Nat.le_refl _) _
  have hs3 := hB3.size
  have R4 : Rd w4 (· ≠ w3.heap.size) (some ⟨w.heap.size, 0, none⟩) (bs digits) := (R3.old hb4).imp fun b _ hb => Nat.ne_of_lt hb.2
  have hB4 := hB3.trans (hb4.mono hB3.size)
  clear hw4 R3 hB3
  go_wp2_with fail
  have S4 := tadd_any w3.heap.size 0xEDB88320#32 0#32 (some ⟨w.heap.size, 0, none⟩) 9 digits w4 T4 R4 (by decide)
  rw [crc_ieee] at S4
  refine S4.mono ?_
  rintro e w5 ⟨rfl, _, hg5⟩
  clear S4 R4 T4
  have hB5 : Below w.heap.size w w5 := hB4.trans (below_of_only hg5 hs3 hB4.size)
  clear hg5 hB4 hb4
  go_wp2
  go_ret
  exact ⟨rfl, hB5⟩

set_option maxHeartbeats 400000 in
theorem crcSums_any (s : B32) (A : Option Addr) (c : Nat) (l : List B8) (w : World) (hr : Rd w (fun _ => True) A (bs l)) :
    Calls Try.prog 3 #[.int .u32 s.toNat, .slice A l.length c] w fun e w' => e = .returned (.bool true) ∧ Below w.heap.size w w' := by
  by_cases hl : 50000 < l.length
  · go_enter Try.func3, Try.ntmps3
    go_wp2_with fail
    refine (awake_any w).mono ?_
    rintro e w1 ⟨rfl, hb⟩
    go_wp2
    go_ret
    exact ⟨rfl, hb⟩
  · have hl' : l.length ≤ 50000 := by omega
    go_enter Try.func3, Try.ntmps3
    go_wp2_with fail
    refine (lent_any A c l _ w hr (by omega)).mono ?_
    rintro e w1 ⟨rfl, hrow1, hb1⟩
    have hr1 := hr.old hb1
    go_wp2_with fail
    refine (sum_any (some ⟨w.heap.size, 0, none⟩) (l.length + 12) l (fun b => b = w.heap.size) w1 (by have := (hrow1.rd (P := fun b => b = w.heap.size) rfl).take l.length; rwa [← bs_take, List.take_left] at this) (by omega)).mono ?_
    rintro e w2 ⟨rfl, hb2⟩
    have hrow2 := hrow1.below hb2 hrow1.lt
    have hr2 := hr1.below hb2 (fun b hb _ => hb)
    have hB2 := hb1.trans (hb2.mono hb1.size)
    clear hrow1 hr1 hb1 hb2
    go_wp2_with fail
    refine (rsum_any A c l _ w2 hr2 (by omega)).mono ?_
    rintro e w2' ⟨rfl, rfl⟩
    go_wp2_with fail
    refine (add_any s (some ⟨w.heap.size, 0, none⟩) (l.length + 12) l (fun b => b = w.heap.size) w2 (by have := (hrow2.rd (P := fun b => b = w.heap.size) rfl).take l.length; rwa [← bs_take, List.take_left] at this) (by omega)).mono ?_
    rintro e w3 ⟨rfl, hb3⟩
    have hrow3 := hrow2.below hb3 hrow2.lt
    have hr3 := hr2.below hb3 (fun b hb _ => hb)
    have hB3 := hB2.trans (hb3.mono hB2.size)
    clear hrow2 hr2 hB2 hb3
    go_wp2_with fail
    refine (radd_any s A c l _ w3 hr3 (by omega)).mono ?_
    rintro e w3' ⟨rfl, rfl⟩
    go_wp2_with fail
    refine (kept_any (some ⟨w.heap.size, 0, none⟩) A (l.length + 12) c l (fun b => b = w.heap.size) _ w3 (hrow3.rd rfl) hr3 (by omega) (Nat.le_refl _)).mono ?_
    rintro e w4 ⟨rfl, hd4⟩
    have hB4 := hB3.trans (hd4.below _)
    clear hrow3 hr3 hB3 hd4
    go_wp2_with fail
    refine (awake_any w4).mono ?_
    rintro e w5 ⟨rfl, hb5⟩
    have hB5 := hB4.trans (hb5.mono hB4.size)
    clear hB4 hb5
    go_wp2
    go_ret
    exact ⟨rfl, hB5⟩

theorem RowB.lent {w : World} {g cap : Nat} {l m : List B8} (h : RowB w g cap (l ++ m)) : Rd w (fun b => b = g) (some ⟨g, 0, none⟩) (bs l) := by
  have := (h.rd (P := fun b => b = g) rfl).take l.length
  rwa [← bs_take, List.take_left] at this

set_option maxHeartbeats 800000 in
theorem crcTables_any (p s : B32) (A : Option Addr) (c : Nat) (l : List B8) (w : World) (hr : Rd w (fun _ => True) A (bs l)) :
    Calls Try.prog 4 #[.int .u32 p.toNat, .int .u32 s.toNat, .slice A l.length c] w fun e w' => e = .returned (.bool true) ∧ Below w.heap.size w w' := by
  by_cases hl : 50000 < l.length
  · go_enter Try.func4, Try.ntmps4
    go_wp2_with fail
    refine (awake_any w).mono ?_
    rintro e w1 ⟨rfl, hb⟩
    go_wp2
    go_ret
    exact ⟨rfl, hb⟩
  · have hl' : l.length ≤ 50000 := by omega
    have hn := u32_not p
    obtain ⟨np, hnp⟩ : ∃ np, np = ~~~ p := ⟨_, rfl⟩
    rw [← hnp] at hn
    clear hnp
    go_enter Try.func4, Try.ntmps4
    go_wp2_with fail
    refine (new_any p w).mono ?_
    rintro e w1 ⟨rfl, hw1⟩
    obtain ⟨g, hg⟩ : ∃ g, g = w.heap.size := ⟨_, rfl⟩
    have T1 : IsTab w1 g p := by rw [hg, ← hw1]; exact isTab_new _ _
    have b1 : Below w.heap.size w w1 := by rw [← hw1]; exact (Below.refl _ _).alloc (Nat.le_refl _) _
    have r1 := hr.old b1
    rw [← hg]
    have gw : w.heap.size ≤ g := by omega
    have rlt : ∀ b, True ∧ b < w.heap.size → b < g := fun b hb => by omega
    clear hw1 hg
    go_wp2_with fail
    refine (new_any np w1).mono ?_
    rintro e w2 ⟨rfl, hw2⟩
    obtain ⟨g2, hg2⟩ : ∃ g, g = w1.heap.size := ⟨_, rfl⟩
    have T2 : IsTab w2 g2 np := by rw [hg2, ← hw2]; exact isTab_new _ _
    have b12 : Below w1.heap.size w1 w2 := by rw [← hw2]; exact (Below.refl _ _).alloc (Nat.le_refl _) _
    have T12 := T1.below b12
    have r2 := r1.below b12 (fun b hb _ => hb)
    have b2 := b1.trans (b12.mono b1.size)
    rw [← hg2]
    have gg : g < g2 := by rw [hg2]; exact T1.lt
    clear hw2 hg2 T1 r1 b1 b12
    go_wp2_with fail
    refine (lent_any A c l _ w2 r2 (by omega)).mono ?_
    rintro e w3 ⟨rfl, row3, b23⟩
    obtain ⟨g3, hg3⟩ : ∃ g, g = w2.heap.size := ⟨_, rfl⟩
    rw [← hg3] at row3 ⊢
    have T13 := T12.below b23
    have T23 := T2.below b23
    have r3 := r2.below b23 (fun b hb _ => hb)
    have b3 := b2.trans (b23.mono b2.size)
    have g23 : g2 < g3 := by rw [hg3]; exact T2.lt
    clear hg3 T12 T2 r2 b2 b23
    go_wp2_with fail
    refine (of_any p s A c l _ w3 r3 (by omega)).mono ?_
    rintro e w3' ⟨rfl, rfl⟩
    go_wp2_with fail
    refine (tadd_any g p s (some ⟨g3, 0, none⟩) (l.length + 12) l w3 T13 (row3.lent.imp fun b _ hb => by omega) (by omega)).mono ?_
    rintro e w4 ⟨rfl, T14, o4⟩
    have T24 := T23.only o4 (by simp; omega)
    have row4 := (RowB.only row3 o4 (by simp; omega))
    have r4 := r3.only o4 (fun b hb => by have := rlt b hb; simp; omega)
    have b4 := b3.trans (below_of_only o4 gw b3.size)
    clear T13 T23 r3 b3 row3 o4
    go_wp2_with fail
    refine (tadd_any g2 np s (some ⟨g3, 0, none⟩) (l.length + 12) l w4 T24 (row4.lent.imp fun b _ hb => by omega) (by omega)).mono ?_
    rintro e w5 ⟨rfl, T25, o5⟩
    have T15 := T14.tab.only o5 (by simp; omega)
    have row5 := (RowB.only row4 o5 (by simp; omega))
    have r5 := r4.only o5 (fun b hb => by have := rlt b hb; simp; omega)
    have b5 := b4.trans (below_of_only o5 (by omega) b4.size)
    clear T24 T14 r4 b4 row4 o5
    go_wp2_with fail
    refine (of_any np s A c l _ w5 r5 (by omega)).mono ?_
    rintro e w5' ⟨rfl, rfl⟩
    go_wp2_with fail
    refine (tadd_any g p s (some ⟨g3, 0, none⟩) (l.length + 12) l w5 T15 (row5.lent.imp fun b _ hb => by omega) (by omega)).mono ?_
    rintro e w6 ⟨rfl, T16, o6⟩
    have row6 := (RowB.only row5 o6 (by simp; omega))
    have r6 := r5.only o6 (fun b hb => by have := rlt b hb; simp; omega)
    have b6 := b5.trans (below_of_only o6 gw b5.size)
    clear T25 T15 r5 b5 row5 o6
    go_wp2_with fail
    refine (kept_any (some ⟨g3, 0, none⟩) A (l.length + 12) c l (fun b => b = g3) _ w6 (row6.rd rfl) r6 (by omega) (Nat.le_refl _)).mono ?_
    rintro e w7 ⟨rfl, hd⟩
    have b7 := b6.trans (hd.below _)
    go_wp2_with fail
    refine (awake_any w7).mono ?_
    rintro e w8 ⟨rfl, hb8⟩
    have b8 := b7.trans (hb8.mono b7.size)
    go_wp2
    go_ret
    exact ⟨rfl, b8⟩

set_option maxRecDepth 100000 in
set_option maxHeartbeats 400000 in
theorem crcNil_any (s : B32) (v : Value) (w : World) :
    Calls Try.prog 5 #[.int .u32 s.toNat, v] w fun e w' => e = .returned (.bool true) ∧ Below w.heap.size w w' := by
  go_enter Try.func5, Try.ntmps5
  go_wp2_with fail
  refine (tadd_nil _ _ _).mono ?_
  rintro e w1 ⟨rfl, rfl⟩
  go_wp2_with fail
  refine (tadd_unmade ⟨w.heap.size, 0, none⟩ _ _ _ ?_).mono ?_
  · rw [cell_of_row _ w.heap.size 0 _ _ _ (heap_alloc_new w _)]
    kernel_rfl
  rintro e w1 ⟨rfl, rfl⟩
  go_wp2_with fail
  refine (awake_any _).mono ?_
  rintro e w5 ⟨rfl, hb5⟩
  go_wp2
  go_ret
  exact ⟨rfl, ((Below.refl _ _).alloc (Nat.le_refl _) _).trans (hb5.mono (by simp))⟩
end Go.Proofs.Ytdkcjmpikmnedaa
