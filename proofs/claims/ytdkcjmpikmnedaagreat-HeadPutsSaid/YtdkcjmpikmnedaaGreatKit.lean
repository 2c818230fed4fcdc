/- The walks through peatbankkit's functions on bytes. -/
import Derived.Test.YtdkcjmpikmnedaaGreatMem
namespace Go.Proofs.YtdkcjmpikmnedaaGreat
open Go.RowKit


/-! ### Marks -/
theorem mark_any (k i : Int) (w : World) : Calls Tryz.prog 80 #[.int .i64 k, .int .i64 i] w fun e w' => e = .returned (.int .i64 (wrap64 (wrap64 (1000003 * wrap64 (k + 7)) + i))) ∧ w = w' := by
  go_enter Tryz.func80, Tryz.ntmps80
  go_wp2
  go_ret
  exact ⟨rfl, rfl⟩
/-- The mark of place i of list k. -/
def mB (k i : Int) : B8 := BitVec.ofInt 8 (IntKind.u64.wrap (IntKind.u64.wrap (wrap64 (wrap64 (1000003 * wrap64 (k + 7)) + i)) * 11400714819323198485) / 72057594037927936)
theorem markByte_any (k i : Int) (w : World) : Calls Tryz.prog 59 #[.int .i64 k, .int .i64 i] w fun e w' => e = .returned (.int .u8 (mB k i).toNat) ∧ w = w' := by
  go_enter Tryz.func59, Tryz.ntmps59
  go_wp2_with (go_at_call 80; refine (mark_any _ _ _).mono ?_; rintro e w' ⟨rfl, rfl⟩)
  go_ret
  exact ⟨congrArg Ending.returned (val_u8 (u8_mod _)), rfl⟩
def marks (k : Int) (n : Nat) : List B8 := (List.range n).map fun (i : Nat) => mB k (i : Int)

theorem marks_zero (k : Int) : marks k 0 = [] := rfl
theorem marks_succ (k : Int) (n : Nat) : marks k (n + 1) = marks k n ++ [mB k n] := by simp [marks, List.range_succ]
@[simp] theorem marks_length (k : Int) (n : Nat) : (marks k n).length = n := by simp [marks]
theorem marks_get (k : Int) (n i : Nat) (h : i < (marks k n).length) : (marks k n)[i] = mB k i := by simp [marks]

/-! ### LentBytes -/
set_option maxHeartbeats 400000 in
theorem lent_any (A : Option Addr) (c : Nat) (l : List B8) (P : Nat → Prop) (w : World) (hr : Rd w P A (bs l)) (hl : l.length ≤ 140737488351232) :
    Calls Tryz.prog 19 #[.slice A l.length c] w fun e w' => e = .returned (.slice (some ⟨w.heap.size, 0, none⟩) l.length (l.length + 12)) ∧ RowB w' w.heap.size (l.length + 12) (l ++ marks 1 12) ∧ Below w.heap.size w w' := by
  go_enter Tryz.func19, Tryz.ntmps19
  go_wp2_with (first | (with_reducible refine stop_make ?_) | (with_reducible refine stop_append ?_))
  unfold Stopped
  refine wpList_make_u8 rfl _ _ rfl _ (l.length + 12) rfl rfl (by omega) (by omega) ?_
  intro w1 hrow1 hg1
  have hb1 : Below w.heap.size w w1 := below_of_none hg1
  have hr1 : Rd w1 (· < w.heap.size) A (bs l) := (hr.imp (Q := (· < w.heap.size)) fun b hb _ => hb).below hb1 (fun b _ hb => hb)
  go_wp2_with (first | (with_reducible refine stop_make ?_) | (with_reducible refine stop_append ?_))
  unfold Stopped
  refine wpList_append_fits_u8 rfl _ _ rfl w.heap.size 0 (l.length + 12) [] rfl rfl hrow1 _ A l.length c l rfl rfl hr1 (by omega) ?_
  intro w2 hrow2 hg2
  have hb2 : Below w.heap.size w w2 := hb1.trans (below_of_only hg2 (Nat.le_refl _) hb1.size)
  rw [List.nil_append] at hrow2
  go_wp2_with (first | (with_reducible refine stop_make ?_) | (with_reducible refine stop_append ?_))
  go_loopw [3, 4] (fun v i wr => ∃ k : Nat, k ≤ 12 ∧ i = .int .i64 k ∧ v = .slice (some ⟨w.heap.size, 0, none⟩) (l.length + k) (l.length + 12) ∧ RowB wr w.heap.size (l.length + 12) (l ++ marks 1 k) ∧ Below w.heap.size w wr) (fun _ i _ => 12 - (intOf i).toNat)
  case atStart => exact ⟨0, by omega, rfl, rfl, by rw [marks_zero, List.append_nil]; exact hrow2, hb2⟩
  case round =>
    obtain ⟨k, hk, rfl, rfl, hrow, hb⟩ := hrel
    by_cases hlt : k < 12
    · go_wp2_with (first | (go_at_call 59; refine (markByte_any _ _ _).mono ?_; rintro e w' ⟨rfl, rfl⟩) | (with_reducible refine stop_append ?_))
      unfold Stopped
      refine wpList_append_fits_u8 rfl _ _ rfl w.heap.size (l.length + k) (l.length + 12) (l ++ marks 1 k) rfl (by simp) (hrow.alloc _) (fun _ => True) (some ⟨wr.heap.size, 0, none⟩) 1 1 [mB 1 k] rfl rfl (rd_one _ _ _ trivial) (by omega) ?_
      intro w3 hrow3 hg3
      have hb3 : Below w.heap.size w w3 := (hb.alloc hb.size _).trans (below_of_only hg3 (Nat.le_refl _) (by have := hb.size; simp; omega))
      rw [List.append_assoc, ← marks_succ] at hrow3
      go_wp2
      go_roundw
      case rel => exact ⟨k + 1, by omega, by go_num, rfl, hrow3, hb3⟩
      case measure => simp [intOf]; omega
    · obtain rfl : k = 12 := by omega
      go_wp2
      go_ret
      exact ⟨rfl, hrow, hb⟩

/-! ### KeptBytes -/
set_option maxHeartbeats 400000 in
theorem kept_any (AO A : Option Addr) (cO c : Nat) (l : List B8) (P Q : Nat → Prop) (w : World) (hO : Rd w P AO (bs (l ++ marks 1 12))) (hr : Rd w Q A (bs l)) (hl : l.length ≤ 140737488351232) (hc : l.length + 12 ≤ cO) :
    Calls Tryz.prog 21 #[.slice AO l.length cO, .slice A l.length c] w fun e w' => e = .returned (.bool true) ∧ Drew w w' := by
  go_enter Tryz.func21, Tryz.ntmps21
  go_wp2
  go_loopw [6] (fun i wr => ∃ k : Nat, k ≤ l.length + 12 ∧ i = .int .i64 k ∧ Drew w wr) (fun i _ => l.length + 12 - (intOf i).toNat)
  case atStart => exact ⟨0, by omega, rfl, Drew.refl _⟩
  case round =>
    obtain ⟨k, hk, rfl, hw⟩ := hrel
    by_cases hlt : k < l.length + 12
    · obtain ⟨bO, oO, rfl, _, hcO⟩ := hw.rd hO (by simp)
      have h0 := hcO k (by simp; omega)
      clear hcO
      by_cases hkl : k < l.length
      · obtain ⟨b, off, rfl, _, hc1⟩ := hw.rd hr (by simp; omega)
        have h1 := hc1 k (by simpa using hkl)
        rw [bs_get] at h0 h1
        rw [List.getElem_append_left hkl] at h0
        clear hc1 hr hO
        have d2 : decide (l.length ≤ k) = false := by simp; omega
        go_wp2
        go_quiet (fail)
        go_wp2
        go_roundw
        case rel => exact ⟨k + 1, by omega, by go_num, hw.more _⟩
        case measure => simp [intOf]; omega
      · rw [bs_get, List.getElem_append_right (by omega), marks_get] at h0
        have d1 : decide (k < l.length) = false := by simp; omega
        have d2 : decide (l.length ≤ k) = true := by simp; omega
        have hkk : IntKind.i64.wrap ((k : Int) - (l.length : Int)) = (k : Int) - (l.length : Int) := IntWalk.i64_in _ (by omega)
        have e : mB 1 ((k - l.length : Nat) : Int) = mB 1 ((k : Int) - (l.length : Int)) := by rw [Int.ofNat_sub (by omega)]
        rw [e] at h0
        clear hr hO e
        go_wp2
        go_quiet ((go_at_call 59; exact quiet_left (markByte_any _ _ _)))
        go_wp2
        go_roundw
        case rel => exact ⟨k + 1, by omega, by go_num, hw.more _⟩
        case measure => simp [intOf]; omega
    · obtain rfl : k = l.length + 12 := by omega
      go_wp2
      go_ret
      exact ⟨rfl, hw⟩

/-! ### CopyBytes, SameBytes -/
theorem copy_any (A : Option Addr) (c : Nat) (l : List B8) (P : Nat → Prop) (w : World) (hr : Rd w P A (bs l)) (hl : l.length ≤ 140737488351232) :
    Calls Tryz.prog 27 #[.slice A l.length c] w fun e w' => (∃ v, e = .returned v ∧ OwnB w' w.heap.size v l) ∧ Below w.heap.size w w' := by
  go_enter Tryz.func27, Tryz.ntmps27
  go_wp2_with (with_reducible refine stop_append ?_)
  unfold Stopped
  refine wpList_append_u8 rfl _ _ rfl w.heap.size (.slice none 0 0) [] rfl (OwnB.nil _ _) P A l.length c l rfl rfl hr (by simp; omega) (Nat.le_refl _) ?_
  intro v1 w1 hown hg _
  rw [List.nil_append] at hown
  go_wp2
  go_ret
  exact ⟨⟨v1, rfl, hown⟩, below_of_none hg⟩

theorem ne_toNat {a b : B8} (h : a ≠ b) : ((a.toNat : Int) != (b.toNat : Int)) = true := by
  rw [bne_iff_ne]
  intro e
  exact h (BitVec.eq_of_toNat_eq (by omega))
theorem ne_toNat' {a b : B8} (h : a ≠ b) : ((a.toNat : Int) == (b.toNat : Int)) = false := by
  rw [beq_eq_false_iff_ne]
  intro e
  exact h (BitVec.eq_of_toNat_eq (by omega))

set_option maxHeartbeats 400000 in
theorem same_any (A A' : Option Addr) (c c' : Nat) (l m : List B8) (P Q : Nat → Prop) (w : World) (h1 : Rd w P A (bs l)) (h2 : Rd w Q A' (bs m)) (hl : l.length ≤ 140737488351232) (hm : m.length ≤ 140737488351232) :
    Calls Tryz.prog 17 #[.slice A l.length c, .slice A' m.length c'] w fun e w' => e = .returned (.bool (decide (l = m))) ∧ Drew w w' := by
  by_cases hlen : l.length = m.length
  · have HL := hide hlen
    have hb : ((l.length : Int) != (m.length : Int)) = false := by simp [hlen]
    have hb' : (l.length != m.length) = false := by simp [hlen]
    have hle : l.length ≤ m.length := by omega
    have hge : m.length ≤ l.length := by omega
    clear hlen
    go_enter Tryz.func17, Tryz.ntmps17
    go_wp2
    go_loopw [5] (fun i wr => ∃ k : Nat, k ≤ l.length ∧ i = .int .i64 k ∧ l.take k = m.take k ∧ Drew w wr) (fun i _ => l.length - (intOf i).toNat)
    case atStart => exact ⟨0, by omega, rfl, rfl, Drew.refl _⟩
    case round =>
      obtain ⟨k, hk, rfl, heq, hw⟩ := hrel
      have HE := hide heq
      clear heq
      by_cases hlt : k < l.length
      · have hltm : k < m.length := by omega
        obtain ⟨b, off, rfl, _, hc⟩ := hw.rd h1 (by simp; omega)
        have q1 := hc k (by simpa using hlt)
        obtain ⟨b', off', rfl, _, hc'⟩ := hw.rd h2 (by simp; omega)
        have q2 := hc' k (by simpa using hltm)
        rw [bs_get] at q1 q2
        clear hc hc' h1 h2
        by_cases he : l[k] = m[k]
        · rw [← he] at q2
          have HE2 := hide he
          clear he
          go_wp2
          go_quiet (fail)
          go_wp2
          go_roundw
          case rel => exact ⟨k + 1, by omega, by go_num, by rw [take_snoc l k hlt, take_snoc m k hltm, HE.out, HE2.out], hw.more _⟩
          case measure => simp [intOf]; omega
        · have hx := ne_toNat he
          have hx' := ne_toNat' he
          have hne : decide (l = m) = false := by simp; rintro rfl; exact he rfl
          have HN := hide hne
          have HE2 := hide he
          clear he hne
          go_wp2
          go_quiet (fail)
          go_wp2
          go_ret
          exact ⟨by rw [HN.out]; rfl, hw.more _⟩
      · obtain rfl : k = l.length := by omega
        have hall : l = m := by
          have := HE.out
          rw [List.take_of_length_le (Nat.le_refl _), List.take_of_length_le hge] at this
          exact this
        have HN := hide (decide_eq_true hall)
        clear hall
        go_wp2
        go_ret
        exact ⟨by rw [HN.out]; rfl, hw⟩
  · have hb : ((l.length : Int) != (m.length : Int)) = true := by rw [bne_iff_ne]; omega
    have hb' : (l.length != m.length) = true := by rw [bne_iff_ne]; exact hlen
    have hne : decide (l = m) = false := by simp; rintro rfl; exact hlen rfl
    have HN := hide hne
    clear hlen hne
    go_enter Tryz.func17, Tryz.ntmps17
    go_wp2
    go_ret
    exact ⟨by rw [HN.out]; rfl, Drew.refl _⟩
end Go.Proofs.YtdkcjmpikmnedaaGreat
