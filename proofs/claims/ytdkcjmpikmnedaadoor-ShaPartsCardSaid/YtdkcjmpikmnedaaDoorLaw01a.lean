/- The walks through ShaSums and ShaLengths. -/
import Derived.Test.YtdkcjmpikmnedaaDoorShaLaw
namespace Go.Proofs.YtdkcjmpikmnedaaDoor
open Go.RowKit
set_option linter.unusedSimpArgs false

theorem digest_same (l : List B8) (w : World) : (binOp .eql 26 (.agg (bs (digest l)).toArray) (.agg (bs (digest l)).toArray)).run Tryd.prog w = .ok (.bool true) w := by
  rw [key_equal _ _ (digest_length l) (digest_length l), decide_eq_true rfl]
theorem RowB.rdl {w : World} {g cap : Nat} {l m : List B8} (h : RowB w g cap (l ++ m)) {P : Nat → Prop} (hP : P g) : Rd w P (some ⟨g, 0, none⟩) (bs l) := by
  have := (h.rd hP).take l.length
  rw [← bs_take, List.take_left] at this
  exact this
set_option maxRecDepth 100000 in
theorem shaSums_any (A : Option Addr) (c : Nat) (l : List B8) (P : Nat → Prop) (w : World) (hL : Laid w) (hr : Rd w P A (bs l)) (hlc : l.length ≤ c) :
    Calls Tryd.prog 3 #[.slice A l.length c] w fun e w' => e = .returned (.bool true) ∧ Below w.heap.size w w' := by
  have n0 := hL.lt
  by_cases hl : 3000 < l.length
  · have hli : (3000 : Int) < (l.length : Int) := by omega
    go_enter Tryd.func3, Tryd.ntmps3
    go_wp2_with fail
    refine (awake_any w hL).mono ?_
    rintro e w1 ⟨rfl, b1⟩
    go_wp2
    go_ret
    exact ⟨rfl, b1⟩
  · have hli : ¬ (3000 : Int) < (l.length : Int) := by omega
    have EQ := digest_same l
    go_enter Tryd.func3, Tryd.ntmps3
    go_wp2_with fail
    refine (awake_any w hL).mono ?_
    rintro e w1 ⟨rfl, b1⟩
    have hL1 := hL.below b1 n0
    have r1 := hr.old b1
    have n1 := b1.size
    go_wp2_with fail
    refine (lent_any A c l _ w1 r1 (by omega)).mono ?_
    rintro e w2 ⟨rfl, ow2, b2⟩
    have hL2 := hL1.below b2 (by omega)
    have r2 := r1.below b2 fun b hb h => hb
    have n2 := b2.size
    have bb2 := b1.trans (b2.mono n1)
    go_wp2_with fail
    refine (shaSum_any _ _ l (fun _ => True) w2 hL2 (ow2.rdl trivial) (by omega)).mono ?_
    rintro e w3 ⟨rfl, b3⟩
    have hL3 := hL2.below b3 (by omega)
    have r3 := r2.below b3 fun b hb h => hb
    have ow3 := ow2.below b3 ow2.lt
    have n3 := b3.size
    have bb3 := bb2.trans (b3.mono (by omega))
    go_wp2_with fail
    refine (rsum_any A c l _ w3 r3 (by omega)).mono ?_
    rintro e w4 ⟨rfl, b4⟩
    have r4 := r3.below b4 fun b hb h => hb
    have ow4 := ow3.below b4 ow3.lt
    have bb4 := bb3.trans (b4.mono (by omega))
    have HD := hide (show (bs (digest l)).toArray.size = 32 by rw [List.size_toArray, bs_length, digest_length])
    go_wp2_with fail
    refine (kept_any _ A _ c l (fun _ => True) _ w4 (ow4.rd trivial) r4 (by omega) (by omega)).mono ?_
    rintro e w5 ⟨rfl, d5⟩
    have bb5 := bb4.trans (d5.below _)
    go_wp2
    go_ret
    exact ⟨rfl, bb5⟩

set_option maxRecDepth 100000 in
theorem shaLengths_any (x : B8) (n : Int) (w : World) (hL : Laid w) :
    Calls Tryd.prog 4 #[.int .u8 x.toNat, .int .i64 n] w fun e w' => e = .returned (.bool true) ∧ Below w.heap.size w w' := by
  have n0 := hL.lt
  obtain ⟨k, hk, hk2⟩ : ∃ k : Nat, pick n 201 = (k : Int) ∧ k < 201 := ⟨(pick n 201).toNat, by have := pick_range n 201 (by omega); omega, by have := pick_range n 201 (by omega); omega⟩
  have HK := hide hk
  clear hk
  go_enter Tryd.func4, Tryd.ntmps4
  go_wp2_with fail
  refine (awake_any w hL).mono ?_
  rintro e w1 ⟨rfl, b1⟩
  have hL1 := hL.below b1 n0
  go_wp2_with fail
  refine (pick_any n 201 w1 (by omega)).mono ?_
  rintro e w2 ⟨rfl, rfl⟩
  rw [HK.out]
  go_wp2_with fail
  go_loopw [6, 7] (fun b i wr => ∃ j : Nat, j ≤ k ∧ i = .int .i64 j ∧ OwnB wr w.heap.size b (List.replicate j x) ∧ Below w.heap.size w wr) (fun _ i _ => k - (intOf i).toNat)
  case atStart => exact ⟨0, by omega, rfl, OwnB.nil _ _, b1⟩
  case round =>
    clear hL1 b1
    obtain ⟨j, hj, rfl, ow, bb⟩ := hrel
    by_cases hlt : j < k
    · have zz := bb.size
      go_wp2_with (with_reducible refine stop_append ?_)
      unfold Stopped
      refine wpList_append_u8 rfl _ _ rfl w.heap.size _ (List.replicate j x) rfl (ow.alloc _) (fun _ => True) (some ⟨wr.heap.size, 0, none⟩) 1 1 [x] rfl rfl (rd_one wr x _ trivial) (by simp; omega) (by simp; omega) ?_
      intro v4 w4 o4 g4 hv4
      have hb4 : Below w.heap.size w w4 := (bb.alloc zz (.cells #[.int .u8 (x.toNat : Int)] 5)).trans ⟨g4.os, g4.tape, g4.output, g4.size, fun k hk => g4.block k (by simp; omega) (fun e => by have := (ow.lt k e.symm).1; omega)⟩
      rw [← List.replicate_succ'] at o4
      go_wp2_with fail
      go_roundw
      case rel => exact ⟨j + 1, by omega, by go_num, o4, hb4⟩
      case measure => simp [intOf]; omega
    · have hLr := hL.below bb n0
      obtain ⟨A1, c1, rfl, hc1⟩ := ow.form
      have rd : Rd wr (fun _ => True) A1 (bs (List.replicate j x)) := ow.rd fun _ _ _ _ => trivial
      have ll : (List.replicate j x).length ≤ 201 := by simp; omega
      have EQ := digest_same (List.replicate j x)
      generalize List.replicate j x = l at *
      have nr := bb.size
      go_wp2_with fail
      refine (shaSum_any A1 c1 l _ wr hLr rd (by omega)).mono ?_
      rintro e w3 ⟨rfl, b3⟩
      have r3 := rd.old b3
      have bb3 := bb.trans (b3.mono nr)
      go_wp2_with fail
      refine (rsum_any A1 c1 l _ w3 r3 (by omega)).mono ?_
      rintro e w4 ⟨rfl, b4⟩
      have bb4 := bb3.trans (b4.mono bb3.size)
      have HD := hide (show (bs (digest l)).toArray.size = 32 by rw [List.size_toArray, bs_length, digest_length])
      go_wp2
      go_ret
      exact ⟨rfl, bb4⟩
end Go.Proofs.YtdkcjmpikmnedaaDoor
