/- The statements of layer 10, walked. -/
import Derived.Test.YtdkcjmpikmnedaaFrameGet
import Derived.Test.YtdkcjmpikmnedaaFrameRef
namespace Go.Proofs.Ytdkcjmpikmnedaa
open Go.RowKit

theorem get_any (A : Option Addr) (c n : Nat) (l : List B8) (P : Nat → Prop) (w : World) (hr : Rd w P A (bs l)) (hn : l.length = n) (hl : l.length ≤ 1000000) (hc : l.length ≤ c) :
    Calls Try.prog 44 #[.slice A n c] w (GetPost w l) := by
  subst hn
  rcases Nat.lt_or_ge l.length 512 with h | h
  · exact get_short A c l w h
  · exact get_long A c l P w hr h hl hc
/-- What is put is got. -/
theorem get_put (k e s m n : Nat) (A : Option Addr) (c : Nat) (d t : List B8) (P : Nat → Prop) (w : World) (hk : k ≤ 255) (he : e ≤ 1099511627776) (hs : s ≤ 1099511627776) (hd : d.length = m) (hm : m ≤ 32768)
    (hn : (frameBytes k e s d ++ t).length = n) (hr : Rd w P A (bs (frameBytes k e s d ++ t))) (hl : n ≤ 1000000) (hc : n ≤ c) :
    Calls Try.prog 44 #[.slice A n c] w fun r w' => ∃ A' c', r = .returned (.tuple #[.agg #[.int .i64 k, .int .i64 e, .int .i64 s, .slice A' m c'], .int .i64 (sectors m : Nat), .int .i64 0]) ∧
      Rd w' (fun _ => True) A' (bs d) ∧ OwnB w' w.heap.size (.slice A' m c') d ∧ Below w.heap.size w w' := by
  subst hd
  obtain ⟨f1, f2, f3, f4, f5, f6⟩ := put_get k e s d t hk he hs hm
  refine (get_any A c n _ P w hr hn (by omega) (by omega)).mono ?_
  rintro r w' ⟨⟨_, v, rfl, own⟩ | ⟨hno, _⟩, hb⟩
  · rw [f6] at own
    obtain ⟨A', c', rfl, _⟩ := own.form
    exact ⟨A', c', by rw [f2, f3, f4, f5], own.rd fun _ _ _ _ => trivial, own, hb⟩
  · exact absurd f1 hno
/-- What is none. -/
theorem get_none (A : Option Addr) (c n : Nat) (l : List B8) (P : Nat → Prop) (w : World) (hr : Rd w P A (bs l)) (hn : l.length = n) (hl : l.length ≤ 1000000) (hc : l.length ≤ c) (h : ¬ isFrame l) :
    Calls Try.prog 44 #[.slice A n c] w fun r w' => r = .returned (.tuple #[.agg #[.int .i64 0, .int .i64 0, .int .i64 0, .slice none 0 0], .int .i64 0, .int .i64 4]) ∧ Below w.heap.size w w' := by
  refine (get_any A c n l P w hr hn hl hc).mono ?_
  rintro r w' ⟨⟨hy, _⟩ | ⟨_, rfl⟩, hb⟩
  · exact absurd hy h
  · exact ⟨rfl, hb⟩

/-- The first example's bytes. -/
def small : List B8 := frameBytes 1 2 3 [4#8]
theorem small_length : small.length = 512 := by rw [small, frameBytes_length]; rfl
theorem small_0 : small[0]? = some 112#8 := by decide +kernel
theorem small_15 : small[15]? = some 2#8 := by decide +kernel
theorem small_27 : small[27]? = some 1#8 := by decide +kernel
theorem small_28 : small[28]? = some 4#8 := by decide +kernel
theorem RowB.cell' {w : World} {g cap : Nat} {l : List B8} (h : RowB w g cap l) (j : Nat) (x : B8) (hx : l[j]? = some x) : w.cell? ⟨g, j, none⟩ = some (.int .u8 (x.toNat : Int)) := by
  obtain ⟨hj, rfl⟩ := List.getElem?_eq_some_iff.1 hx
  exact h.cell j hj

set_option maxHeartbeats 400000 in
theorem awake10_any (w : World) : Calls Try.prog 39 #[] w fun e w' => e = .returned (.bool true) ∧ Below w.heap.size w w' := by
  go_enter Try.func39, Try.ntmps39
  go_wp2_with fail
  have r0 : Rd (w.alloc (.cells #[.int .u8 4] 5)) (· = w.heap.size) (some ⟨w.heap.size, 0, none⟩) (bs [4#8]) := rd_one w 4#8 _ rfl
  have b0 : Below w.heap.size w (w.alloc (.cells #[.int .u8 4] 5)) := (Below.refl _ _).alloc (Nat.le_refl _) _
  have z0 : (w.alloc (.cells #[.int .u8 4] 5)).heap.size = w.heap.size + 1 := by simp
  generalize w.alloc (.cells #[.int .u8 4] 5) = w1 at *
  have B1 := Blk.new w1 68 #[.int .i64 1, .int .i64 2, .int .i64 3, .slice (some ⟨w.heap.size, 0, none⟩) 1 1]
  have b1 := b0.alloc b0.size (.cells #[.int .i64 1, .int .i64 2, .int .i64 3, .slice (some ⟨w.heap.size, 0, none⟩) 1 1] 68)
  have r1 := r0.below ((Below.refl w1.heap.size w1).alloc (Nat.le_refl _) (.cells #[.int .i64 1, .int .i64 2, .int .i64 3, .slice (some ⟨w.heap.size, 0, none⟩) 1 1] 68)) fun b hb _ => hb
  rw [z0] at B1
  generalize w1.alloc (.cells #[.int .i64 1, .int .i64 2, .int .i64 3, .slice (some ⟨w.heap.size, 0, none⟩) 1 1] 68) = w2 at *
  clear r0 b0 z0
  refine (put_at 1 2 3 1 (some ⟨w.heap.size, 0, none⟩) 1 [4#8] _ w2 rfl (by decide) (by decide) (by decide) (by decide) r1).mono ?_
  rintro r w3 ⟨g, hg, rfl, hrow, b3⟩
  rw [show 512 * sectors 1 = 512 from rfl] at *
  have hs : RowB w3 g 512 small := hrow
  have B3 := B1.below b3 B1.lt
  have r3 := r1.below b3 fun b hb _ => hb
  have hb3 := b1.trans (b3.mono b1.size)
  have hgw : w.heap.size + 1 < g := Nat.lt_of_lt_of_le B1.lt hg
  clear hrow r1 B1 b1 b3 hg
  go_wp2_with fail
  refine (get_put 1 2 3 1 512 (some ⟨g, 0, none⟩) 512 [4#8] [] (fun _ => True) w3 (by decide) (by decide) (by decide) rfl (by decide) (by rw [List.append_nil]; exact small_length) (by rw [List.append_nil]; exact hs.rd trivial) (by decide) (by decide)).mono ?_
  rintro r w4 ⟨A4, c4, rfl, r4, own4, b4⟩
  rw [show sectors 1 = 1 from rfl]
  have B4 := B3.below b4 B3.lt
  have s4 := hs.below b4 hs.lt
  have r5 := r3.below b4 fun b hb _ => hb
  have hb4 := hb3.trans (b4.mono hb3.size)
  have hg4 := s4.lt
  have hw4 := B4.lt
  have k0 : w4.cell? ⟨g, 0, none⟩ = some (.int .u8 112) := s4.cell' 0 _ small_0
  have k15 : w4.cell? ⟨g, 15, none⟩ = some (.int .u8 2) := s4.cell' 15 _ small_15
  have k27 : w4.cell? ⟨g, 27, none⟩ = some (.int .u8 1) := s4.cell' 27 _ small_27
  have k28 : w4.cell? ⟨g, 28, none⟩ = some (.int .u8 4) := s4.cell' 28 _ small_28
  have c0 : w4.cell? ⟨w.heap.size + 1, 0, none⟩ = some (.int .i64 1) := B4.cell 0
  have c1 : w4.cell? ⟨w.heap.size + 1, 1, none⟩ = some (.int .i64 2) := B4.cell 1
  have c2 : w4.cell? ⟨w.heap.size + 1, 2, none⟩ = some (.int .i64 3) := B4.cell 2
  have c3 : w4.cell? ⟨w.heap.size + 1, 3, none⟩ = some (.slice (some ⟨w.heap.size, 0, none⟩) 1 1) := B4.cell 3
  clear own4 b4 B3 r3 hb3 hs
  have b5 := (Below.refl w4.heap.size w4).alloc (Nat.le_refl _) (.cells #[.int .i64 1, .int .i64 2, .int .i64 3, .slice A4 1 c4] 68)
  have r6 := r5.below b5 fun b hb _ => hb
  have r7 := (r4.imp (Q := (· < w4.heap.size)) fun b hb _ => hb).below b5 fun b hb _ => hb
  have SF := sameFrame_at 1 2 3 (some ⟨w.heap.size, 0, none⟩) A4 1 c4 1 [4#8] _ _ rfl (w4.alloc (.cells #[.int .i64 1, .int .i64 2, .int .i64 3, .slice A4 1 c4] 68)) r6 r7 (by decide)
  have HF := hide SF
  clear SF r4 r5 r6 r7
  go_wp2_with (go_at_call 46; refine HF.out.mono ?_; rintro r w5 ⟨rfl, b6⟩)
  go_ret
  exact ⟨rfl, (hb4.trans (b5.mono hb4.size)).trans (b6.mono (by have := hb4.size; simp; omega))⟩

/-- What is put of a frame: its bytes, or none and why. -/
def putRes (k e s : Int) (d : List B8) : List B8 × Int := if okNums k e s then (if d.length ≤ 32768 then (frameBytes k.toNat e.toNat s.toNat d, 0) else ([], 3)) else ([], 2)
theorem putRes_len (k e s : Int) (d : List B8) : (putRes k e s d).1.length ≤ 40000 := by
  unfold putRes
  split
  · split
    · rw [frameBytes_length]; unfold sectors; omega
    · simp
  · simp
theorem put_all (k e s : Int) (A : Option Addr) (c n : Nat) (d : List B8) (P : Nat → Prop) (w : World) (hn : d.length = n) (hr : Rd w P A (bs d)) (hd : n ≤ 140737488351232) :
    Calls Try.prog 41 #[.agg #[.int .i64 k, .int .i64 e, .int .i64 s, .slice A n c]] w fun r w' =>
      ∃ A' c', r = .returned (.tuple #[.slice A' (putRes k e s d).1.length c', .int .i64 (putRes k e s d).2]) ∧ Rd w' (fun b => w.heap.size ≤ b) A' (bs (putRes k e s d).1) ∧ (putRes k e s d).1.length ≤ c' ∧ Below w.heap.size w w' := by
  subst hn
  unfold putRes
  by_cases h : okNums k e s
  · rw [if_pos h]
    obtain ⟨h1, h2, h3, h4, h5, h6⟩ := id h
    by_cases hl : d.length ≤ 32768
    · rw [if_pos hl]
      have := put_good k.toNat e.toNat s.toNat A c d P w (by omega) (by omega) (by omega) hl hr
      rw [Int.toNat_of_nonneg h1, Int.toNat_of_nonneg h3, Int.toNat_of_nonneg h5] at this
      refine this.mono ?_
      rintro r w' ⟨⟨g, hg, rfl, hrow⟩, hb⟩
      refine ⟨_, _, by rw [frameBytes_length], hrow.rd hg, by rw [frameBytes_length]; exact Nat.le_refl _, hb⟩
    · rw [if_neg hl]
      refine (put_long k e s A d.length c w h (by omega) hd).mono ?_
      rintro r w' ⟨rfl, hb⟩
      exact ⟨none, 0, rfl, Rd.nil, Nat.le_refl _, hb⟩
  · rw [if_neg h]
    refine (put_bad k e s (.slice A d.length c) w h).mono ?_
    rintro r w' ⟨rfl, hb⟩
    exact ⟨none, 0, rfl, Rd.nil, Nat.le_refl _, hb⟩
theorem rput_all (k e s : Int) (A : Option Addr) (c n : Nat) (d : List B8) (P : Nat → Prop) (w : World) (hn : d.length = n) (hr : Rd w P A (bs d)) (hd : n ≤ 140737488351232) :
    Calls Try.prog 42 #[.agg #[.int .i64 k, .int .i64 e, .int .i64 s, .slice A n c]] w fun r w' =>
      ∃ A' c', r = .returned (.tuple #[.slice A' (putRes k e s d).1.length c', .int .i64 (putRes k e s d).2]) ∧ OwnB w' (w.heap.size + 1) (.slice A' (putRes k e s d).1.length c') (putRes k e s d).1 ∧ Below w.heap.size w w' := by
  subst hn
  unfold putRes
  by_cases h : okNums k e s
  · rw [if_pos h]
    obtain ⟨h1, h2, h3, h4, h5, h6⟩ := id h
    by_cases hl : d.length ≤ 32768
    · rw [if_pos hl]
      have := rput_good k.toNat e.toNat s.toNat A c d P w (by omega) (by omega) (by omega) hl hr
      rw [Int.toNat_of_nonneg h1, Int.toNat_of_nonneg h3, Int.toNat_of_nonneg h5] at this
      refine this.mono ?_
      rintro r w' ⟨⟨v, rfl, hown⟩, hb⟩
      obtain ⟨A', c', rfl, _⟩ := hown.form
      exact ⟨A', c', rfl, hown, hb⟩
    · rw [if_neg hl]
      refine (rput_long k e s A d.length c w h (by omega) hd).mono ?_
      rintro r w' ⟨rfl, hb⟩
      exact ⟨none, 0, rfl, OwnB.nil _ _, hb⟩
  · rw [if_neg h]
    refine (rput_bad k e s (.slice A d.length c) w h).mono ?_
    rintro r w' ⟨rfl, hb⟩
    exact ⟨none, 0, rfl, OwnB.nil _ _, hb⟩

/-! ### FramePuts -/
set_option maxHeartbeats 400000 in
theorem framePuts_any (k e s : Int) (A : Option Addr) (c : Nat) (d : List B8) (P : Nat → Prop) (w : World) (hr : Rd w P A (bs d)) (hd : d.length ≤ 140737488351232) :
    Calls Try.prog 11 #[.agg #[.int .i64 k, .int .i64 e, .int .i64 s, .slice A d.length c]] w fun r w' => r = .returned (.bool true) ∧ Below w.heap.size w w' := by
  have b0 : Below w.heap.size w (w.alloc (.cells #[.int .i64 k, .int .i64 e, .int .i64 s, .slice A d.length c] 68)) := (Below.refl _ _).alloc (Nat.le_refl _) _
  have B0 : Blk (w.alloc (.cells #[.int .i64 k, .int .i64 e, .int .i64 s, .slice A d.length c] 68)) w.heap.size 68 #[.int .i64 k, .int .i64 e, .int .i64 s, .slice A d.length c] := Blk.new _ _ _
  have r0 := (hr.imp (Q := (· < w.heap.size)) fun b hb _ => hb).below b0 fun _ _ hb => hb
  go_enter Try.func11, Try.ntmps11
  go_wp2_with fail
  generalize w.alloc (.cells #[.int .i64 k, .int .i64 e, .int .i64 s, .slice A d.length c] 68) = w1 at *
  refine (awake10_any w1).mono ?_
  rintro r w2 ⟨rfl, b1⟩
  have B2 := B0.below b1 B0.lt
  have b2 := b0.trans (b1.mono b0.size)
  have r2 := r0.below b1 fun b hb _ => hb
  clear B0 b0 r0 b1 hr
  have hw2 := B2.lt
  have c0 : w2.cell? ⟨w.heap.size, 0, none⟩ = some (.int .i64 k) := B2.cell 0
  have c1 : w2.cell? ⟨w.heap.size, 1, none⟩ = some (.int .i64 e) := B2.cell 1
  have c2 : w2.cell? ⟨w.heap.size, 2, none⟩ = some (.int .i64 s) := B2.cell 2
  have c3 : w2.cell? ⟨w.heap.size, 3, none⟩ = some (.slice A d.length c) := B2.cell 3
  by_cases hskip : (3000 < d.length ∧ d.length ≤ 32768) ∨ 40000 < d.length
  · have D1 : decide (3000 < (d.length : Int)) = true := decide_eq_true (by omega)
    by_cases h32 : d.length ≤ 32768
    · have D2 : decide ((d.length : Int) ≤ 32768) = true := decide_eq_true (by omega)
      clear hskip
      go_wp2
      go_ret
      exact ⟨rfl, b2⟩
    · have D2 : decide ((d.length : Int) ≤ 32768) = false := decide_eq_false (by omega)
      have D3 : decide (40000 < (d.length : Int)) = true := decide_eq_true (by omega)
      clear hskip
      go_wp2
      go_ret
      exact ⟨rfl, b2⟩
  · have D3 : decide (40000 < (d.length : Int)) = false := decide_eq_false (by omega)
    have hor : (decide (3000 < (d.length : Int)) = true ∧ decide ((d.length : Int) ≤ 32768) = false) ∨ decide (3000 < (d.length : Int)) = false := by
      rcases Nat.lt_or_ge 3000 d.length with h | h
      · exact .inl ⟨decide_eq_true (by omega), decide_eq_false (by omega)⟩
      · exact .inr (decide_eq_false (by omega))
    clear hskip
    rcases hor with ⟨D1, D2⟩ | D1 <;> go_wp2_with fail
    all_goals
      refine (lentFrame_any k e s A c d _ w2 r2 hd).mono ?_
      rintro r w3 ⟨f, hf, rfl, row3, b3⟩
      have B3 := B2.below b3 B2.lt
      have b3' := b2.trans (b3.mono b2.size)
      have r3 := r2.below b3 fun b hb _ => hb
      have row4 := row3.alloc (.cells #[.int .i64 k, .int .i64 e, .int .i64 s, .slice (some ⟨f, 0, none⟩) d.length (d.length + 12)] 68)
      have B4 := B3.alloc (.cells #[.int .i64 k, .int .i64 e, .int .i64 s, .slice (some ⟨f, 0, none⟩) d.length (d.length + 12)] 68)
      have b4 := b3'.alloc b3'.size (.cells #[.int .i64 k, .int .i64 e, .int .i64 s, .slice (some ⟨f, 0, none⟩) d.length (d.length + 12)] 68)
      have L4 := Blk.new w3 68 #[.int .i64 k, .int .i64 e, .int .i64 s, .slice (some ⟨f, 0, none⟩) d.length (d.length + 12)]
      have r4 := r3.below ((Below.refl w3.heap.size w3).alloc (Nat.le_refl _) (.cells #[.int .i64 k, .int .i64 e, .int .i64 s, .slice (some ⟨f, 0, none⟩) d.length (d.length + 12)] 68)) fun b hb h => hb
      clear c0 c1 c2 c3 B3 b3' r3 row3 b3 D1 D3
      go_wp2_with fail
      generalize w3.alloc (.cells #[.int .i64 k, .int .i64 e, .int .i64 s, .slice (some ⟨f, 0, none⟩) d.length (d.length + 12)] 68) = w4 at *
      have hf4 := row4.lt
      have rf4 : Rd w4 (fun _ => True) (some ⟨f, 0, none⟩) (bs d) := by
        have := (row4.rd (P := fun _ => True) trivial).take d.length
        rwa [bs_append, List.take_append_of_le_length (by simp), List.take_of_length_le (by simp)] at this
      refine (put_all k e s (some ⟨f, 0, none⟩) (d.length + 12) d.length d _ w4 rfl rf4 hd).mono ?_
      rintro r w5 ⟨A5, n5, rfl, r5, hn5, b5⟩
      generalize hR : putRes k e s d = R at *
      have hRl : R.1.length ≤ 40000 := by rw [← hR]; exact putRes_len k e s d
      have B5 := B4.below b5 B4.lt
      have L5 := L4.below b5 L4.lt
      have row5 := row4.below b5 hf4
      have r5a := r4.below b5 fun b hb _ => hb
      have b5' := b4.trans (b5.mono b4.size)
      clear B4 L4 row4 r4 b5 b4 rf4
      have c0 : w5.cell? ⟨w.heap.size, 0, none⟩ = some (.int .i64 k) := B5.cell 0
      have c1 : w5.cell? ⟨w.heap.size, 1, none⟩ = some (.int .i64 e) := B5.cell 1
      have c2 : w5.cell? ⟨w.heap.size, 2, none⟩ = some (.int .i64 s) := B5.cell 2
      have c3 : w5.cell? ⟨w.heap.size, 3, none⟩ = some (.slice A d.length c) := B5.cell 3
      go_wp2_with fail
      refine (rput_all k e s A c d.length d _ w5 rfl r5a hd).mono ?_
      rintro r w6 ⟨A6, n6, rfl, own6, b6⟩
      rw [hR] at *
      have B6 := B5.below b6 B5.lt
      have L6 := L5.below b6 L5.lt
      have row6 := row5.below b6 row5.lt
      have r6a := r5a.below b6 fun b hb _ => hb
      have r6 := r5.below b6 fun b hb _ => hb
      have b6' := b5'.trans (b6.mono b5'.size)
      clear B5 L5 row5 r5a r5 b5' b6 c0 c1 c2 c3
      have c0 : w6.cell? ⟨w.heap.size, 0, none⟩ = some (.int .i64 k) := B6.cell 0
      have c1 : w6.cell? ⟨w.heap.size, 1, none⟩ = some (.int .i64 e) := B6.cell 1
      have c2 : w6.cell? ⟨w.heap.size, 2, none⟩ = some (.int .i64 s) := B6.cell 2
      have c3 : w6.cell? ⟨w.heap.size, 3, none⟩ = some (.slice A d.length c) := B6.cell 3
      go_wp2_with fail
      have SB := same_any A5 A6 n5 n6 R.1 R.1 _ (fun _ => True) w6 r6 (own6.rd fun _ _ _ _ => trivial) (by omega) (by omega)
      rw [decide_eq_true rfl] at SB
      refine SB.mono ?_
      rintro r w7 ⟨rfl, d7⟩
      clear SB c0 c1 c2 c3
      have B7 := d7.blk B6
      have L7 := d7.blk L6
      have row7 := row6.below (d7.below w6.heap.size) row6.lt
      have r7 := d7.rd r6a
      have b7 := b6'.trans (d7.below _)
      clear B6 L6 row6 r6a b6' d7
      have c0 : w7.cell? ⟨w.heap.size, 0, none⟩ = some (.int .i64 k) := B7.cell 0
      have c1 : w7.cell? ⟨w.heap.size, 1, none⟩ = some (.int .i64 e) := B7.cell 1
      have c2 : w7.cell? ⟨w.heap.size, 2, none⟩ = some (.int .i64 s) := B7.cell 2
      have c3 : w7.cell? ⟨w.heap.size, 3, none⟩ = some (.slice A d.length c) := B7.cell 3
      have l0 : w7.cell? ⟨w3.heap.size, 0, none⟩ = some (.int .i64 k) := L7.cell 0
      have l1 : w7.cell? ⟨w3.heap.size, 1, none⟩ = some (.int .i64 e) := L7.cell 1
      have l2 : w7.cell? ⟨w3.heap.size, 2, none⟩ = some (.int .i64 s) := L7.cell 2
      have l3 : w7.cell? ⟨w3.heap.size, 3, none⟩ = some (.slice (some ⟨f, 0, none⟩) d.length (d.length + 12)) := L7.cell 3
      go_wp2_with fail
      refine (keptFrame_any k e s (some ⟨f, 0, none⟩) A (d.length + 12) c d (fun _ => True) _ w7 (row7.rd trivial) r7 hd (Nat.le_refl _)).mono ?_
      rintro r w8 ⟨rfl, b8⟩
      go_wp2
      go_ret
      exact ⟨rfl, b7.trans (b8.mono b7.size)⟩
end Go.Proofs.Ytdkcjmpikmnedaa
