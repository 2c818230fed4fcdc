/- CrcFinds, walked. -/
import Derived.Test.YtdkcjmpikmnedaaLaw02
namespace Go.Proofs.Ytdkcjmpikmnedaa
open Go.RowKit

/-! ### Turned bits, in plain Lean -/
def flipAt (m : List B8) (pos : Nat) : List B8 := m.set (pos / 8) (m.getD (pos / 8) 0#8 ^^^ (1#8 <<< (pos % 8)))
def flipsTo (l : List B8) (at_ t : Nat) : Nat → List B8
  | 0 => l
  | k + 1 => if t.testBit k then flipAt (flipsTo l at_ t k) (at_ + k) else flipsTo l at_ t k
theorem flipAt_length (m : List B8) (pos : Nat) : (flipAt m pos).length = m.length := by simp [flipAt]
theorem flipsTo_length (l : List B8) (at_ t : Nat) (k : Nat) : (flipsTo l at_ t k).length = l.length := by
  induction k with
  | zero => rfl
  | succ k ih => unfold flipsTo; split <;> simp [flipAt_length, ih]
theorem num_xorl_set : ∀ (l m : List B8) (i : Nat) (x : B8), l.length = m.length → i < m.length → num (xorl l (m.set i (m.getD i 0#8 ^^^ x))) = num (xorl l m) ^^^ x.toNat * 2 ^ (8 * i) := by
  intro l
  induction l with
  | nil => intro m i x h hi; simp at h; omega
  | cons c l ih =>
    intro m i x h hi
    cases m with
    | nil => simp at hi
    | cons d m =>
      cases i with
      | zero =>
        show num ((c ^^^ (d ^^^ x)) :: xorl l m) = num ((c ^^^ d) :: xorl l m) ^^^ _
        rw [num_cons, num_cons, Nat.mul_zero, Nat.pow_zero, Nat.mul_one]
        simp only [BitVec.toNat_xor]
        ac_rfl
      | succ i =>
        have hi' : i < m.length := by simpa using hi
        show num ((c ^^^ d) :: xorl l (m.set i (m.getD i 0#8 ^^^ x))) = num ((c ^^^ d) :: xorl l m) ^^^ _
        rw [num_cons, num_cons, ih m i x (by simpa using h) hi', Nat.xor_assoc]
        congr 1
        rw [show 8 * (i + 1) = 8 * i + 8 by omega, Nat.pow_add, ← Nat.mul_assoc]
        apply Nat.eq_of_testBit_eq
        intro j
        simp only [Nat.testBit_mul_two_pow, Nat.testBit_xor]
        by_cases hj : 8 ≤ j <;> simp [hj]
theorem num_flipAt (l m : List B8) (pos : Nat) (h : l.length = m.length) (hp : pos < 8 * m.length) : num (xorl l (flipAt m pos)) = num (xorl l m) ^^^ 2 ^ pos := by
  unfold flipAt
  rw [num_xorl_set l m _ _ h (by omega)]
  congr 1
  have h8 : pos % 8 < 8 := Nat.mod_lt _ (by omega)
  rw [BitVec.toNat_shiftLeft, Nat.shiftLeft_eq, Nat.mod_eq_of_lt]
  · rw [show (1#8).toNat = 1 from rfl, Nat.one_mul, ← Nat.pow_add]; congr 1; omega
  · rw [show (1#8).toNat = 1 from rfl, Nat.one_mul]; exact Nat.pow_lt_pow_right (by omega) h8
theorem num_flips (l : List B8) (at_ t : Nat) (k : Nat) (hk : at_ + k ≤ 8 * l.length) : num (xorl l (flipsTo l at_ t k)) = (t % 2 ^ k) * 2 ^ at_ := by
  induction k with
  | zero =>
    show num (xorl l l) = _
    rw [xorl_self, Nat.pow_zero, Nat.mod_one, Nat.zero_mul]
    clear hk
    induction l with
    | nil => rfl
    | cons c l ih => rw [List.length_cons, List.replicate_succ, num_cons, ih]; simp
  | succ k ih =>
    have ih' := ih (by omega)
    have hbit : (t % 2 ^ (k + 1)) * 2 ^ at_ = (t % 2 ^ k) * 2 ^ at_ ^^^ (if t.testBit k then 2 ^ (at_ + k) else 0) := by
      apply Nat.eq_of_testBit_eq
      intro j
      rw [Nat.testBit_xor, Nat.testBit_mul_two_pow, Nat.testBit_mul_two_pow, Nat.testBit_mod_two_pow, Nat.testBit_mod_two_pow]
      by_cases ht : t.testBit k
      · rw [if_pos ht, Nat.testBit_two_pow]
        by_cases hj : at_ ≤ j
        · by_cases he : j - at_ = k
          · have : at_ + k = j := by omega
            subst he
            simp [hj, ht, this]
          · have h1 : ¬ at_ + k = j := by omega
            by_cases hlt : j - at_ < k
            · simp [hj, h1, hlt, show j - at_ < k + 1 by omega]
            · simp [hj, h1, hlt, show ¬ j - at_ < k + 1 by omega]
        · simp [hj, show ¬ at_ + k = j by omega]
      · rw [if_neg ht, Nat.zero_testBit, Bool.xor_false]
        by_cases he : j - at_ = k
        · simp [he, ht]
        · by_cases hlt : j - at_ < k
          · simp [hlt, show j - at_ < k + 1 by omega]
          · simp [hlt, show ¬ j - at_ < k + 1 by omega]
    unfold flipsTo
    by_cases ht : t.testBit k
    · rw [if_pos ht, num_flipAt _ _ _ (flipsTo_length ..).symm (by rw [flipsTo_length]; omega), ih', hbit, if_pos ht]
    · rw [if_neg ht, ih', hbit, if_neg ht, Nat.xor_zero]

theorem test_val (t : B32) (k : Nat) : bits .and .u32 ((t.toNat : Int) / 2 ^ k) 1 = if t.toNat.testBit k then 1 else 0 := by
  have e : (t.toNat : Int) / 2 ^ k = ((t >>> k).toNat : Int) := u32_shr t k _ (by simp)
  rw [e, show (1 : Int) = (((1#32) : B32).toNat : Int) by decide, u32_and, BitVec.toNat_and, show (1#32).toNat = 2 ^ 1 - 1 by decide, Nat.and_two_pow_sub_one_eq_mod, BitVec.toNat_ushiftRight]
  have hb : t.toNat.testBit k = decide ((t.toNat >>> k) % 2 = 1) := by
    rw [← Nat.testBit_zero, Nat.testBit_shiftRight]; rfl
  rw [hb]
  by_cases h : (t.toNat >>> k) % 2 = 1
  · rw [h]; rfl
  · have h0 : (t.toNat >>> k) % 2 = 0 := by omega
    rw [h0]; rfl
theorem test_yes (t : B32) (k : Nat) (h : t.toNat.testBit k = true) : (bits .and .u32 ((t.toNat : Int) / 2 ^ k) 1 == 1) = true := by rw [test_val, h]; rfl
theorem test_no (t : B32) (k : Nat) (h : t.toNat.testBit k = false) : (bits .and .u32 ((t.toNat : Int) / 2 ^ k) 1 == 1) = false := by rw [test_val, h]; rfl

theorem flip_val (y : B8) (n : Nat) : bits .xor .u8 (y.toNat : Int) (2 ^ n % 256) = ((y ^^^ (1#8 <<< n)).toNat : Int) := by
  have e : (2 ^ n % 256 : Int) = ((1#8 <<< n).toNat : Int) := by
    rw [BitVec.toNat_shiftLeft, show (1#8).toNat = 1 from rfl, Nat.shiftLeft_eq, Nat.one_mul]
    simp
  rw [e, u8_xor]
theorem ne32 {a b : B32} (h : a ≠ b) : ((a.toNat : Int) != (b.toNat : Int)) = true := by
  rw [bne_iff_ne]
  intro e
  exact h (BitVec.eq_of_toNat_eq (by omega))
theorem ne32' {a b : B32} (h : a ≠ b) : (a.toNat != b.toNat) = true := by
  rw [bne_iff_ne]
  intro e
  exact h (BitVec.eq_of_toNat_eq e)

set_option maxHeartbeats 800000 in
theorem crcFinds_any (A : Option Addr) (c : Nat) (l : List B8) (at_ : Int) (t : B32) (w : World) (hr : Rd w (fun _ => True) A (bs l)) :
    Calls Try.prog 8 #[.slice A l.length c, .int .i64 at_, .int .u32 t.toNat] w fun e w' => e = .returned (.bool true) ∧ Below w.heap.size w w' := by
  by_cases hl : 4 ≤ l.length ∧ l.length ≤ 50000 ∧ t ≠ 0#32
  · obtain ⟨hl4, hl5, ht⟩ := hl
    have hp := pick_range at_ (8 * (l.length : Int) - 31) (by omega)
    obtain ⟨p, hpe⟩ : ∃ p, p = pick at_ (8 * (l.length : Int) - 31) := ⟨_, rfl⟩
    have ht0 : ((t.toNat : Int) == 0) = false := by
      rw [beq_eq_false_iff_ne]; intro e; exact ht (BitVec.eq_of_toNat_eq (by rw [BitVec.toNat_ofNat]; omega))
    have ht1 : (t.toNat == 0) = false := by
      rw [beq_eq_false_iff_ne]; intro e; exact ht (BitVec.eq_of_toNat_eq (by rw [BitVec.toNat_ofNat]; omega))
    rw [← hpe] at hp
    obtain ⟨q, rfl⟩ := Int.eq_ofNat_of_zero_le hp.1
    have HP := hide hpe
    clear hpe
    go_enter Try.func8, Try.ntmps8
    go_wp2_with fail
    refine (awake_any w).mono ?_
    rintro e w1 ⟨rfl, hb1⟩
    have r1 := hr.old hb1
    clear hr
    go_wp2_with fail
    refine (pick_any at_ (8 * (l.length : Int) - 31) w1 (by omega)).mono ?_
    rintro e w1' ⟨rfl, rfl⟩
    rw [← HP.out]
    go_wp2_with fail
    refine (copy_any A c l _ w1 r1 (by omega)).mono ?_
    rintro e w2 ⟨⟨v, rfl, hown⟩, hb2⟩
    have r2 := r1.below hb2 (fun b _ hb => by have := hb1.size; omega)
    obtain ⟨g, cap, rfl, hrow, hgb, hcap⟩ := hown.row (by omega)
    have hB2 := hb1.trans (hb2.mono hb1.size)
    have hgw : w.heap.size ≤ g := by have := hb1.size; omega
    clear hown hb1 hb2 r1 hgb
    go_wp2_with fail
    go_loopw [8] (fun i wr => ∃ k : Nat, k ≤ 32 ∧ i = .int .i64 k ∧ RowB wr g cap (flipsTo l q t.toNat k) ∧ Below w.heap.size w wr ∧ w2.grownBy wr (some g)) (fun i _ => 32 - (intOf i).toNat)
    case atStart => exact ⟨0, by omega, rfl, hrow, hB2, only_refl _ _⟩
    case round =>
      obtain ⟨k, hk, rfl, hrowk, hBk, hgk⟩ := hrel
      by_cases hlt : k < 32
      · have hlen := flipsTo_length l q t.toNat k
        have hx : (q + k) / 8 < (flipsTo l q t.toNat k).length := by rw [hlen]; omega
        have hc := hrowk.cell ((q + k) / 8) hx
        have hz := hrowk.frozen ((q + k) / 8)
        obtain ⟨y, hy⟩ : ∃ y, y = (flipsTo l q t.toNat k).getD ((q + k) / 8) 0#8 := ⟨_, rfl⟩
        rw [show (flipsTo l q t.toNat k)[(q + k) / 8] = y by rw [hy]; simp [hx]] at hc
        have HY := hide hy
        have HX := hide hx
        have HL := hide hlen
        clear hy hx hlen
        by_cases hbit : t.toNat.testBit k = true
        · have htest := test_yes t k hbit
          have HB := hide hbit
          clear hbit
          go_wp2
          have hs := hrowk.stored ((q + k) / 8) (y ^^^ (1#8 <<< ((q + k) % 8)))
          have e : (flipsTo l q t.toNat k).set ((q + k) / 8) (y ^^^ (1#8 <<< ((q + k) % 8))) = flipsTo l q t.toNat (k + 1) := by
            rw [HY.out]
            show _ = if t.toNat.testBit k then _ else _
            rw [if_pos HB.out]
            rfl
          rw [e, ← flip_val y _] at hs
          go_roundw
          case rel => exact ⟨k + 1, by omega, by go_num, hs.1, hBk.trans (below_of_only hs.2 hgw hBk.size), only_trans hgk hs.2⟩
          case measure => simp [intOf]; omega
        · have htest := test_no t k (by simpa using hbit)
          have HB := hide hbit
          clear hbit
          go_wp2
          have e : flipsTo l q t.toNat (k + 1) = flipsTo l q t.toNat k := by
            show (if t.toNat.testBit k then _ else _) = _
            rw [if_neg HB.out]
          go_roundw
          case rel => exact ⟨k + 1, by omega, by go_num, by rw [e]; exact hrowk, hBk, hgk⟩
          case measure => simp [intOf]; omega
      · obtain rfl : k = 32 := by omega
        have r3 := r2.only hgk (fun b hb => by simp; omega)
        have hne : crcOf castagnoli 0#32 l ≠ crcOf castagnoli 0#32 (flipsTo l q t.toNat 32) := by
          refine crc_burst castagnoli 0#32 (by decide) l _ (flipsTo_length ..).symm q t.toNat t.isLt (by intro e; exact ht (BitVec.eq_of_toNat_eq (by rw [e]; rfl))) (by omega) ?_
          rw [num_flips l q t.toNat 32 (by omega), Nat.mod_eq_of_lt t.isLt]
        have hn1 := ne32 hne
        have hn2 := ne32' hne
        generalize hm : flipsTo l q t.toNat 32 = m at *
        have hml : m.length = l.length := by rw [← hm]; exact flipsTo_length ..
        clear hm hne ht
        generalize hx : crcOf castagnoli 0#32 l = x at *
        generalize hy : crcOf castagnoli 0#32 m = y at *
        have HX := hide hx
        have HY := hide hy
        have HM := hide hml
        clear hx hy hml
        go_wp2_with fail
        refine (sum_any A c l _ wr r3 (by omega)).mono ?_
        rintro e w3 ⟨rfl, hb3⟩
        rw [HX.out]
        have hrow3 := hrowk.below hb3 hrowk.lt
        have hB3 := hBk.trans (hb3.mono hBk.size)
        go_wp2_with fail
        have S := sum_any (some ⟨g, 0, none⟩) cap m (fun _ => True) w3 (hrow3.rd trivial) (by rw [HM.out]; omega)
        rw [HM.out, HY.out] at S
        refine S.mono ?_
        rintro e w4 ⟨rfl, hb4⟩
        have hB4 := hB3.trans (hb4.mono hB3.size)
        clear S hb4 hb3 hB3
        go_wp2
        go_ret
        exact ⟨rfl, hB4⟩
  · by_cases h5 : 50000 < l.length
    · go_enter Try.func8, Try.ntmps8
      go_wp2_with fail
      refine (awake_any w).mono ?_
      rintro e w1 ⟨rfl, hb1⟩
      go_wp2
      go_ret
      exact ⟨rfl, hb1⟩
    · by_cases h4 : l.length < 4
      · go_enter Try.func8, Try.ntmps8
        go_wp2_with fail
        refine (awake_any w).mono ?_
        rintro e w1 ⟨rfl, hb1⟩
        go_wp2
        go_ret
        exact ⟨rfl, hb1⟩
      · obtain rfl : t = 0#32 := by
          rcases Classical.em (t = 0#32) with h | h
          · exact h
          · exact absurd ⟨by omega, by omega, h⟩ hl
        clear hl
        go_enter Try.func8, Try.ntmps8
        go_wp2_with fail
        refine (awake_any w).mono ?_
        rintro e w1 ⟨rfl, hb1⟩
        go_wp2
        go_ret
        exact ⟨rfl, hb1⟩
end Go.Proofs.Ytdkcjmpikmnedaa
