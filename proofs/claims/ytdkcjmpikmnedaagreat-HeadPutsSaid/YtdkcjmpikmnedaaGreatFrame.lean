/- The walks through frame: numbers, bytes put, bytes got. -/
import Derived.Test.YtdkcjmpikmnedaaGreatFill
import Derived.Test.YtdkcjmpikmnedaaGreatFrameMath
import Derived.Test.YtdkcjmpikmnedaaGreatCrc
import Derived.Test.YtdkcjmpikmnedaaGreatKit
namespace Go.Proofs.YtdkcjmpikmnedaaGreat
open Go.RowKit

/-- What appends onto a row of the call's own leaves. -/
theorem below_own {w w' : World} {base B : Nat} {v : Value} {l : List B8} (h : OwnB w base v l) (hg : w.grownBy w' v.ownBlock) (hB : B ≤ base) (hs : B ≤ w.heap.size) : Below B w w' :=
  ⟨hg.os, hg.tape, hg.output, hg.size, fun i hi => hg.block i (by omega) (fun e => by have := (h.lt i e.symm).1; omega)⟩
theorem byte_at (n k : Nat) : (n : Int) / 2 ^ (8 * k) % 256 = ((BitVec.ofNat 8 (n / 256 ^ k)).toNat : Int) := by
  rw [BitVec.toNat_ofNat, show (256 : Nat) ^ k = 2 ^ (8 * k) by rw [Nat.pow_mul], Int.natCast_emod, Int.natCast_ediv, Int.natCast_pow]
  rfl
theorem may_any (n : Int) (w : World) : Calls Tryz.prog 108 #[.int .i64 n] w fun e w' => e = .returned (.bool (decide (0 ≤ n ∧ n ≤ 1099511627776))) ∧ w = w' := by
  by_cases h0 : 0 ≤ n
  · by_cases h1 : n ≤ 1099511627776
    · have hd : decide (0 ≤ n ∧ n ≤ 1099511627776) = true := by simp [h0, h1]
      rw [hd]; clear hd
      go_enter Tryz.func108, Tryz.ntmps108
      go_wp2
      go_ret
      exact ⟨rfl, rfl⟩
    · have hd : decide (0 ≤ n ∧ n ≤ 1099511627776) = false := by simp [h1]
      rw [hd]; clear hd
      go_enter Tryz.func108, Tryz.ntmps108
      go_wp2
      go_ret
      exact ⟨rfl, rfl⟩
  · have hd : decide (0 ≤ n ∧ n ≤ 1099511627776) = false := by simp [h0]
    rw [hd]; clear hd
    go_enter Tryz.func108, Tryz.ntmps108
    go_wp2
    go_ret
    exact ⟨rfl, rfl⟩
theorem sectors_any (n : Nat) (w : World) (hn : n ≤ 1000000000000) : Calls Tryz.prog 109 #[.int .i64 (n : Int)] w fun e w' => e = .returned (.int .i64 (sectors n : Nat)) ∧ w = w' := by
  have hs : ((n : Int) + 543) / 512 = ((sectors n : Nat) : Int) := by unfold sectors; omega
  have HS := hide hs
  clear hs
  go_enter Tryz.func109, Tryz.ntmps109
  go_wp2
  go_ret
  refine ⟨?_, rfl⟩
  rw [← HS.out]
  exact congrArg (fun x : Int => Ending.returned (.int .i64 (x / 512))) (show (28 + (n : Int) + 4 + 512 - 1) = n + 543 by omega)

set_option maxHeartbeats 400000 in
theorem number_any (g cap z : Nat) (n : Nat) (l : List B8) (w : World) (hf : Fill w g cap l) (hz : z ≤ 8) (hc : l.length + z ≤ cap) :
    Calls Tryz.prog 110 #[.slice (some ⟨g, 0, none⟩) l.length cap, .int .u64 (n : Int), .int .i64 (z : Int)] w
      fun e w' => e = .returned (.slice (some ⟨g, 0, none⟩) (l.length + z) cap) ∧ Fill w' g cap (l ++ be n z) ∧ w.grownBy w' (some g) := by
  go_enter Tryz.func110, Tryz.ntmps110
  go_wp2
  go_loopw [0, 7] (fun v i wr => ∃ (k : Nat) (m : List B8), i = .int .i64 ((k : Int) - 1) ∧ v = .slice (some ⟨g, 0, none⟩) (l.length + m.length) cap ∧ m.length + k = z ∧ m ++ be n k = be n z ∧ Fill wr g cap (l ++ m) ∧ w.grownBy wr (some g)) (fun _ i _ => (intOf i + 1).toNat)
  case atStart => exact ⟨z, [], rfl, rfl, by simp, rfl, by rw [List.append_nil]; exact hf, only_refl _ _⟩
  case round =>
    obtain ⟨k, m, rfl, rfl, hk, hbe, hfk, hg⟩ := hrel
    have HB := hide hbe
    clear hbe
    rcases k with _ | k
    · go_wp2
      go_ret
      obtain rfl : m.length = z := by omega
      have e := HB.out
      rw [show be n 0 = [] from rfl, List.append_nil] at e
      rw [← e]
      exact ⟨rfl, hfk, hg⟩
    · rw [show ((k + 1 : Nat) : Int) - 1 = (k : Int) by omega]
      go_wp2_with (with_reducible refine stop_append ?_)
      rw [byte_at]
      unfold Stopped
      refine wpList_append_fill rfl _ _ rfl g (l.length + m.length) cap (l ++ m) rfl (by simp) (hfk.alloc _) (fun _ => True) (some ⟨wr.heap.size, 0, none⟩) 1 1 [BitVec.ofNat 8 (n / 256 ^ k)] rfl rfl (rd_one _ _ _ trivial) (by omega) ?_
      intro w1 hf1 hg1
      have hg2 := only_trans (only_alloc hg _) hg1
      rw [List.append_assoc] at hf1
      clear hfk hg1
      go_wp2
      go_roundw
      case rel => exact ⟨k, m ++ [BitVec.ofNat 8 (n / 256 ^ k)], rfl, by go_num, by simp; omega, by rw [← HB.out, be]; simp, hf1, hg2⟩
      case measure => simp [intOf]

theorem or_byte (n c : Nat) (hc : c < 256) (hn : n < 72057594037927936) : bits .or .u64 ((n : Int) * 256) (c : Int) = ((256 * n + c : Nat) : Int) := by
  have h1 : ((n : Int) * 256) = ((256 * n : Nat) : Int) := by omega
  rw [h1]
  show IntKind.u64.wrap ((BitVec.ofInt 64 ((256 * n : Nat) : Int) ||| BitVec.ofInt 64 (c : Int)).toNat : Int) = _
  rw [BitVec.ofInt_natCast, BitVec.ofInt_natCast, BitVec.toNat_or, BitVec.toNat_ofNat, BitVec.toNat_ofNat, Nat.mod_eq_of_lt (by omega), Nat.mod_eq_of_lt (by omega), show (256 : Nat) = 2 ^ 8 by decide, ← Nat.two_pow_add_eq_or_of_lt (by omega), IntKind.wrap_u64]
  omega
theorem pow_small (k : Nat) (h : k < 8) : 256 ^ k ≤ 72057594037927936 := by
  have := Nat.pow_le_pow_right (n := 256) (by omega) (show k ≤ 7 by omega)
  exact Nat.le_trans this (by decide)
set_option maxHeartbeats 400000 in
theorem said_any (A : Option Addr) (c : Nat) (l : List B8) (P : Nat → Prop) (w : World) (hr : Rd w P A (bs l)) (hl : l.length ≤ 8) :
    Calls Tryz.prog 115 #[.slice A l.length c] w fun e w' => e = .returned (.int .u64 (said l : Nat)) ∧ w = w' := by
  go_enter Tryz.func115, Tryz.ntmps115
  go_wp2
  go_loop [2, 7] (fun v i => ∃ k : Nat, k ≤ l.length ∧ i = .int .i64 k ∧ v = .int .u64 (said (l.take k) : Nat)) (fun _ i => l.length - (intOf i).toNat)
  case atStart => exact ⟨0, Nat.zero_le _, rfl, rfl⟩
  case round =>
    obtain ⟨k, hk, rfl, rfl⟩ := hrel
    by_cases hlt : k < l.length
    · obtain ⟨b, off, rfl, _, hc⟩ := hr (by simp; omega)
      have h0 := hc k (by simpa using hlt)
      rw [bs_get] at h0
      clear hc hr
      have hs := said_snoc (l.take k) l[k]
      rw [← take_snoc l k hlt] at hs
      have HS := hide hs
      clear hs
      have hsl := said_lt (l.take k)
      rw [List.length_take, Nat.min_eq_left hk] at hsl
      generalize hq : said (l.take k) = q at *
      have HQ := hide hq
      clear hq
      have hp := pow_small k (by omega)
      have hq7 : q < 72057594037927936 := by omega
      clear hsl hp
      go_wp2
      go_round
      case rel => exact ⟨k + 1, by omega, by go_num, by rw [HS.out, or_byte _ _ (l[k].isLt) hq7]⟩
      case measure => simp [intOf]; omega
    · go_wp2
      go_ret
      rw [List.take_of_length_le (by omega)]
      exact ⟨rfl, rfl⟩

/-! ### What the reference asks -/
set_option maxHeartbeats 400000 in
theorem rsaid_any (A : Option Addr) (c : Nat) (l : List B8) (P : Nat → Prop) (w : World) (hr : Rd w P A (bs l)) (hl : l.length ≤ 8) :
    Calls Tryz.prog 149 #[.slice A l.length c] w fun e w' => e = .returned (.int .u64 (said l : Nat)) ∧ w = w' := by
  go_enter Tryz.func149, Tryz.ntmps149
  go_wp2
  go_loop [3, 4] (fun v i => ∃ k : Nat, k ≤ l.length ∧ i = .int .i64 k ∧ v = .int .u64 (said (l.take k) : Nat)) (fun _ i => l.length - (intOf i).toNat)
  case atStart => exact ⟨0, Nat.zero_le _, rfl, rfl⟩
  case round =>
    obtain ⟨k, hk, rfl, rfl⟩ := hrel
    by_cases hlt : k < l.length
    · obtain ⟨b, off, rfl, _, hc⟩ := hr (by simp; omega)
      have h0 := hc k (by simpa using hlt)
      rw [bs_get] at h0
      clear hc hr
      have hs := said_snoc (l.take k) l[k]
      rw [← take_snoc l k hlt] at hs
      have HS := hide hs
      clear hs
      have hsl := said_lt (l.take k)
      rw [List.length_take, Nat.min_eq_left hk] at hsl
      generalize hq : said (l.take k) = q at *
      have HQ := hide hq
      clear hq
      have hp := pow_small k (by omega)
      have hq7 : q < 72057594037927936 := by omega
      clear hsl hp
      have hc8 := l[k].isLt
      go_wp2
      go_round
      case rel => exact ⟨k + 1, by omega, by go_num, by rw [HS.out, Int.natCast_add, Int.natCast_mul]; rfl⟩
      case measure => simp [intOf]; omega
    · go_wp2
      go_ret
      rw [List.take_of_length_le (by omega)]
      exact ⟨rfl, rfl⟩

set_option maxHeartbeats 400000 in
theorem rnumber_any (n z : Nat) (w : World) (hz : z ≤ 8) :
    Calls Tryz.prog 113 #[.int .u64 (n : Int), .int .i64 (z : Int)] w
      fun e w' => (∃ v, e = .returned v ∧ OwnB w' w.heap.size v (be n z)) ∧ Below w.heap.size w w' := by
  go_enter Tryz.func113, Tryz.ntmps113
  go_wp2
  go_loopw [5, 6] (fun v i wr => ∃ (k : Nat) (m : List B8), i = .int .i64 ((k : Int) - 1) ∧ m.length + k = z ∧ m ++ be n k = be n z ∧ OwnB wr w.heap.size v m ∧ Below w.heap.size w wr) (fun _ i _ => (intOf i + 1).toNat)
  case atStart => exact ⟨z, [], rfl, by simp, rfl, OwnB.nil _ _, Below.refl _ _⟩
  case round =>
    obtain ⟨k, m, rfl, hk, hbe, hown, hb⟩ := hrel
    have HB := hide hbe
    clear hbe
    rcases k with _ | k
    · go_wp2
      go_ret
      have e := HB.out
      rw [show be n 0 = [] from rfl, List.append_nil] at e
      rw [← e]
      exact ⟨⟨_, rfl, hown⟩, hb⟩
    · rw [show ((k + 1 : Nat) : Int) - 1 = (k : Int) by omega]
      go_wp2_with (with_reducible refine stop_append ?_)
      rw [byte_at]
      unfold Stopped
      refine wpList_append_u8 rfl _ _ rfl w.heap.size _ m rfl (hown.alloc _) (fun _ => True) (some ⟨wr.heap.size, 0, none⟩) 1 1 [BitVec.ofNat 8 (n / 256 ^ k)] rfl rfl (rd_one _ _ _ trivial) (by simp; omega) (by have := hb.size; simp; omega) ?_
      intro v1 w1 hown1 hg1 _
      have hb1 : Below w.heap.size w w1 := by
        have hbA := hb.alloc hb.size (.cells #[.int .u8 ((BitVec.ofNat 8 (n / 256 ^ k)).toNat : Int)] 5)
        exact hbA.trans (below_own (hown.alloc _) hg1 (Nat.le_refl _) hbA.size)
      clear hown hg1
      go_wp2
      go_roundw
      case rel => exact ⟨k, m ++ [BitVec.ofNat 8 (n / 256 ^ k)], by go_num, by simp; omega, by rw [← HB.out, be]; simp, hown1, hb1⟩
      case measure => simp [intOf]
