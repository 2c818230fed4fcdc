/- The statements of layer 2, walked. -/
import Derived.Test.YtdkcjmpikmnedaaCrc
import Derived.Test.YtdkcjmpikmnedaaKit
import Derived.Lib.SlBytesConst
namespace Go.Proofs.Ytdkcjmpikmnedaa
open Go.RowKit

def digits : List B8 := [49#8, 50#8, 51#8, 52#8, 53#8, 54#8, 55#8, 56#8, 57#8]
theorem crc_digits : crcOf castagnoli 0#32 digits = 0xE3069283#32 := by decide +kernel
theorem crc_empty : crcOf castagnoli 0#32 [] = 0#32 := by decide +kernel
theorem crc_one : crcOf castagnoli 0#32 [0#8] = 0x527D5351#32 := by decide +kernel
theorem crc_ieee : crcOf 0xEDB88320#32 0#32 digits = 0xCBF43926#32 := by decide +kernel

set_option maxHeartbeats 400000 in
theorem awake_any (w : World) : Calls Try.prog 20 #[] w fun e w' => e = .returned (.bool true) ∧ Below w.heap.size w w' := by
  have kc := fun (w : World) (C : Array Value) (n c : Nat) => Lib.run_convert_bytes_const (P := Try.prog) w 23 5 C n c Try.underlying23 Try.underlying5
  go_enter Try.func20, Try.ntmps20
  go_wp2_with fail
  have R0 : Rd (w.alloc (.cells (bs digits).toArray 5 (9, 10))) (fun b => b = w.heap.size) (some ⟨w.heap.size, 0, none⟩) (bs digits) := rd_alloc w 5 (bs digits).toArray (9, 10) (bs digits) rfl (fun b => b = w.heap.size) rfl
  have hb0 : Below w.heap.size w (w.alloc (.cells (bs digits).toArray 5 (9, 10))) := (Below.refl _ _).alloc (Nat.le_refl _) _
  have S1 := sum_any (some ⟨w.heap.size, 0, none⟩) 9 digits (fun b => b = w.heap.size) _ R0 (by decide)
  rw [crc_digits] at S1
  refine S1.mono ?_
  rintro e w1 ⟨rfl, hb1⟩
  clear S1
  have R1 := R0.below hb1 (fun b hb _ => hb)
  have hB1 : Below w.heap.size w w1 := hb0.trans (hb1.mono (by simp))
  clear R0 hb1 hb0
  go_wp2_with fail
  have S2 := sum_any none 0 [] (fun _ => True) w1 Rd.nil (by decide)
  rw [crc_empty] at S2
  refine S2.mono ?_
  rintro e w2 ⟨rfl, hb2⟩
  clear S2
  have R2 := R1.below hb2 (fun b hb _ => hb)
  have hB2 := hB1.trans (hb2.mono hB1.size)
  clear R1 hB1 hb2
  go_wp2_with fail
  have S3 := sum_any (some ⟨w2.heap.size, 0, none⟩) 1 [0#8] (fun _ => True) _ (rd_one w2 0#8 _ trivial) (by decide)
  rw [crc_one] at S3
  refine S3.mono ?_
  rintro e w3 ⟨rfl, hb3⟩
  clear S3
  have hb3' : Below w2.heap.size w2 w3 := ((Below.refl _ _).alloc (Nat.le_refl _) _).trans (hb3.mono (by simp))
  have R3 := R2.below hb3' (fun b hb _ => hb)
  have hB3 := hB2.trans (hb3'.mono hB2.size)
  clear R2 hB2 hb3 hb3'
  go_wp2_with fail
  refine (new_any 0xEDB88320#32 w3).mono ?_
  rintro e w4 ⟨rfl, hw4⟩
  have T4 : IsTab w4 w3.heap.size 0xEDB88320#32 := hw4 ▸ isTab_new _ w3
  have hb4 : Below w3.heap.size w3 w4 := hw4 ▸ (Below.refl _ _).alloc (Nat.le_refl _) _
  have hs3 := hB3.size
  have R4 : Rd w4 (· ≠ w3.heap.size) (some ⟨w.heap.size, 0, none⟩) (bs digits) := (R3.old hb4).imp fun b _ hb => Nat.ne_of_lt hb.2
  have hB4 := hB3.trans (hb4.mono hB3.size)
  clear hw4 R3 hB3
  go_wp2_with fail
  have S4 := tadd_any w3.heap.size 0xEDB88320#32 0#32 (some ⟨w.heap.size, 0, none⟩) 9 digits w4 T4 R4 (by decide)
  rw [crc_ieee] at S4
  refine S4.mono ?_
  rintro e w5 ⟨rfl, _, hg5⟩
  clear S4 R4 T4
  have hB5 : Below w.heap.size w w5 := hB4.trans (below_of_only hg5 hs3 hB4.size)
  clear hg5 hB4 hb4
  go_wp2
  go_ret
  exact ⟨rfl, hB5⟩

set_option maxHeartbeats 400000 in
theorem crcSums_any (s : B32) (A : Option Addr) (c : Nat) (l : List B8) (w : World) (hr : Rd w (fun _ => True) A (bs l)) :
    Calls Try.prog 3 #[.int .u32 s.toNat, .slice A l.length c] w fun e w' => e = .returned (.bool true) ∧ Below w.heap.size w w' := by
  by_cases hl : 50000 < l.length
  · go_enter Try.func3, Try.ntmps3
    go_wp2_with fail
    refine (awake_any w).mono ?_
    rintro e w1 ⟨rfl, hb⟩
    go_wp2
    go_ret
    exact ⟨rfl, hb⟩
  · have hl' : l.length ≤ 50000 := by omega
    go_enter Try.func3, Try.ntmps3
    go_wp2_with fail
    refine (lent_any A c l _ w hr (by omega)).mono ?_
    rintro e w1 ⟨rfl, hrow1, hb1⟩
    have hr1 := hr.old hb1
    go_wp2_with fail
    refine (sum_any (some ⟨w.heap.size, 0, none⟩) (l.length + 12) l (fun b => b = w.heap.size) w1 (by have := (hrow1.rd (P := fun b => b = w.heap.size) rfl).take l.length; rwa [← bs_take, List.take_left] at this) (by omega)).mono ?_
    rintro e w2 ⟨rfl, hb2⟩
    have hrow2 := hrow1.below hb2 hrow1.lt
    have hr2 := hr1.below hb2 (fun b hb _ => hb)
    have hB2 := hb1.trans (hb2.mono hb1.size)
    clear hrow1 hr1 hb1 hb2
    go_wp2_with fail
    refine (rsum_any A c l _ w2 hr2 (by omega)).mono ?_
    rintro e w2' ⟨rfl, rfl⟩
    go_wp2_with fail
    refine (add_any s (some ⟨w.heap.size, 0, none⟩) (l.length + 12) l (fun b => b = w.heap.size) w2 (by have := (hrow2.rd (P := fun b => b = w.heap.size) rfl).take l.length; rwa [← bs_take, List.take_left] at this) (by omega)).mono ?_
    rintro e w3 ⟨rfl, hb3⟩
    have hrow3 := hrow2.below hb3 hrow2.lt
    have hr3 := hr2.below hb3 (fun b hb _ => hb)
    have hB3 := hB2.trans (hb3.mono hB2.size)
    clear hrow2 hr2 hB2 hb3
    go_wp2_with fail
    refine (radd_any s A c l _ w3 hr3 (by omega)).mono ?_
    rintro e w3' ⟨rfl, rfl⟩
    go_wp2_with fail
    refine (kept_any (some ⟨w.heap.size, 0, none⟩) A (l.length + 12) c l (fun b => b = w.heap.size) _ w3 (hrow3.rd rfl) hr3 (by omega) (Nat.le_refl _)).mono ?_
    rintro e w4 ⟨rfl, hd4⟩
    have hB4 := hB3.trans (hd4.below _)
    clear hrow3 hr3 hB3 hd4
    go_wp2_with fail
    refine (awake_any w4).mono ?_
    rintro e w5 ⟨rfl, hb5⟩
    have hB5 := hB4.trans (hb5.mono hB4.size)
    clear hB4 hb5
    go_wp2
    go_ret
    exact ⟨rfl, hB5⟩
end Go.Proofs.Ytdkcjmpikmnedaa
