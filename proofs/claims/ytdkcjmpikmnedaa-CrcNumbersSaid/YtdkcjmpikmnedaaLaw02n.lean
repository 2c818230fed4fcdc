/- CrcNumbers, walked. -/
import Derived.Test.YtdkcjmpikmnedaaLaw02
namespace Go.Proofs.Ytdkcjmpikmnedaa
open Go.RowKit

/-- The same contracts for words that are given as numbers. -/
theorem crcSums_int (s : Int) (h : 0 ≤ s ∧ s < 4294967296) (A : Option Addr) (c n : Nat) (l : List B8) (hn : l.length = n) (w : World) (hr : Rd w (fun _ => True) A (bs l)) :
    Calls Try.prog 3 #[.int .u32 s, .slice A n c] w fun e w' => e = .returned (.bool true) ∧ Below w.heap.size w w' := by
  subst hn
  have e : s = ((BitVec.ofInt 32 s).toNat : Int) := by rw [BitVec.toNat_ofInt]; omega
  rw [e]
  exact crcSums_any _ A c l w hr
theorem crcTables_int (p s : Int) (hp : 0 ≤ p ∧ p < 4294967296) (h : 0 ≤ s ∧ s < 4294967296) (A : Option Addr) (c n : Nat) (l : List B8) (hn : l.length = n) (w : World) (hr : Rd w (fun _ => True) A (bs l)) :
    Calls Try.prog 4 #[.int .u32 p, .int .u32 s, .slice A n c] w fun e w' => e = .returned (.bool true) ∧ Below w.heap.size w w' := by
  subst hn
  have e : s = ((BitVec.ofInt 32 s).toNat : Int) := by rw [BitVec.toNat_ofInt]; omega
  have e2 : p = ((BitVec.ofInt 32 p).toNat : Int) := by rw [BitVec.toNat_ofInt]; omega
  rw [e, e2]
  exact crcTables_any _ _ A c l w hr
theorem rd_cells_new (w : World) (t : TypeId) (C : Array Value) (l : List B8) (h : C = (bs l).toArray) : Rd (w.alloc (.cells C t)) (fun _ => True) (some ⟨w.heap.size, 0, none⟩) (bs l) := rd_alloc w t C (0, 0) (bs l) h _ trivial
theorem byte_nat (k : Nat) (h : k < 256) : (k : Int) = ((BitVec.ofNat 8 k).toNat : Int) := by rw [BitVec.toNat_ofNat]; omega

set_option maxRecDepth 100000 in
set_option maxHeartbeats 800000 in
theorem crcNumbers_any (w : World) : Calls Try.prog 6 #[] w fun e w' => e = .returned (.bool true) ∧ Below w.heap.size w w' := by
  have kc := fun (w : World) (C : Array Value) (n c : Nat) => Lib.run_convert_bytes_const (P := Try.prog) w 23 5 C n c Try.underlying23 Try.underlying5
  go_enter Try.func6, Try.ntmps6
  go_wp2
  go_loopw [1] (fun i wr => ∃ k : Nat, k ≤ 256 ∧ i = .int .i64 k ∧ Below w.heap.size w wr) (fun i _ => 256 - (intOf i).toNat)
  case atStart => exact ⟨0, by omega, rfl, Below.refl _ _⟩
  case round =>
    obtain ⟨k, hk, rfl, hb⟩ := hrel
    by_cases hlt : k < 256
    · go_wp2_with fail
      refine (crcSums_int 0 (by omega) _ 1 1 [BitVec.ofNat 8 k] rfl _ (rd_cells_new _ _ _ _ (by simp only [bs, List.map_cons, List.map_nil]; rw [← byte_nat k hlt]))).mono ?_
      rintro e w1 ⟨rfl, hb1⟩
      have hB1 : Below w.heap.size w w1 := (hb.alloc hb.size _).trans (hb1.mono (by have := hb.size; simp; omega))
      clear hb hb1
      go_wp2_with fail
      refine (crcSums_int _ (by omega) _ 3 3 [1#8, 2#8, BitVec.ofNat 8 k] rfl _ (rd_cells_new _ _ _ _ (by simp only [bs, List.map_cons, List.map_nil]; rw [← byte_nat k hlt]; rfl))).mono ?_
      rintro e w2 ⟨rfl, hb2⟩
      have hB2 : Below w.heap.size w w2 := (hB1.alloc hB1.size _).trans (hb2.mono (by have := hB1.size; simp; omega))
      clear hB1 hb2
      go_wp2
      go_roundw
      case rel => exact ⟨k + 1, by omega, by go_num, hB2⟩
      case measure => simp [intOf]; omega
    · go_wp2
      go_loopw [2] (fun i wr => ∃ k : Nat, k ≤ 32 ∧ i = .int .i64 k ∧ Below w.heap.size w wr) (fun i _ => 32 - (intOf i).toNat)
      case atStart => exact ⟨0, by omega, rfl, hb⟩
      case round =>
        obtain ⟨j, hj, rfl, hb⟩ := hrel
        by_cases hlt : j < 32
        · go_wp2_with fail
          refine (crcTables_int _ _ (by omega) (by omega) _ 4 4 [112#8, 101#8, 97#8, 116#8] rfl _ (rd_alloc wr 5 _ (4, 5) _ rfl _ trivial)).mono ?_
          rintro e w1 ⟨rfl, hb1⟩
          have hB1 : Below w.heap.size w w1 := (hb.alloc hb.size _).trans (hb1.mono (by have := hb.size; simp; omega))
          clear hb hb1
          go_wp2_with (with_reducible refine stop_make ?_)
          unfold Stopped
          refine wpList_unguard rfl ?_
          refine wpList_make_u8_full rfl _ _ rfl _ _ j rfl rfl rfl rfl (by omega) ?_
          intro w2 hrow2 hg2
          have hB2 := hB1.trans ((below_of_none hg2).mono hB1.size)
          have hr2 := hrow2.rd (P := fun _ => True) trivial
          clear hg2 hB1 hrow2
          go_wp2_with fail
          go_goals
          refine (crcSums_int _ (by omega) _ j j (List.replicate j 0#8) (by simp) _ hr2).mono ?_
          rintro e w3 ⟨rfl, hb3⟩
          have hB3 := hB2.trans (hb3.mono hB2.size)
          clear hB2 hb3 hr2
          go_wp2
          go_roundw
          case rel => exact ⟨j + 1, by omega, by go_num, hB3⟩
          case measure => simp [intOf]; omega
        · go_wp2_with fail
          refine (crcTables_int _ _ (by omega) (by omega) _ 3 3 [255#8, 0#8, 1#8] rfl _ (rd_cells_new _ _ _ _ rfl)).mono ?_
          rintro e w1 ⟨rfl, hb1⟩
          have hB1 : Below w.heap.size w w1 := (hb.alloc hb.size _).trans (hb1.mono (by have := hb.size; simp; omega))
          clear hb hb1
          go_wp2_with fail
          refine (crcTables_int _ _ (by omega) (by omega) _ 3 3 [255#8, 0#8, 1#8] rfl _ (rd_cells_new _ _ _ _ rfl)).mono ?_
          rintro e w2 ⟨rfl, hb2⟩
          have hB2 : Below w.heap.size w w2 := (hB1.alloc hB1.size _).trans (hb2.mono (by have := hB1.size; simp; omega))
          clear hB1 hb2
          go_wp2_with fail
          refine (awake_any _).mono ?_
          rintro e w3 ⟨rfl, hb3⟩
          go_wp2
          go_ret
          exact ⟨rfl, hB2.trans (hb3.mono hB2.size)⟩
end Go.Proofs.Ytdkcjmpikmnedaa
