/- HeadGets, walked. -/
import Derived.Test.YtdkcjmpikmnedaaRef12k
namespace Go.Proofs.Ytdkcjmpikmnedaa
open Go.RowKit

theorem RowB.front {w : World} {g : Nat} {l : List B8} (h : RowB w g (l.length + 12) (l ++ marks 1 12)) : Rd w (fun b => b = g) (some ⟨g, 0, none⟩) (bs l) := by
  have := (h.rd (P := fun b => b = g) rfl).take l.length
  rwa [bs_append, List.take_append_of_le_length (by simp), List.take_of_length_le (by simp)] at this
set_option maxRecDepth 100000 in
set_option maxHeartbeats 3200000 in
theorem headGets_any (A B : Option Addr) (c c' : Nat) (l m : List B8) (P Q : Nat → Prop) (w : World) (hr : Rd w P A (bs l)) (hs : Rd w Q B (bs m)) (hl : l.length ≤ 140737488351232) (hm : m.length ≤ 140737488351232) (hcl : l.length ≤ c) (hcm : m.length ≤ c') :
    Calls Try.prog 19 #[.slice A l.length c, .slice B m.length c'] w fun e w' => e = .returned (.bool true) ∧ Below w.heap.size w w' := by
  have r0 := hr.imp (Q := (· < w.heap.size)) fun b hb _ => hb
  have s0 := hs.imp (Q := (· < w.heap.size)) fun b hb _ => hb
  have GT : Try.prog.eqGuardType Try.prog.depth 55 = false := by kernel_rfl
  clear hr hs
  by_cases hbig : 40000 < l.length ∨ 40000 < m.length
  · by_cases h1 : 40000 < l.length
    · have D1 : decide (40000 < (l.length : Int)) = true := decide_eq_true (by omega)
      clear hbig
      go_enter Try.func19, Try.ntmps19
      go_wp2_with fail
      refine (awake12_any w).mono ?_
      rintro e w2 ⟨rfl, b2⟩
      go_wp2
      go_ret
      exact ⟨rfl, b2⟩
    · have D1 : decide (40000 < (l.length : Int)) = false := decide_eq_false (by omega)
      have D2 : decide (40000 < (m.length : Int)) = true := decide_eq_true (by omega)
      clear hbig
      go_enter Try.func19, Try.ntmps19
      go_wp2_with fail
      refine (awake12_any w).mono ?_
      rintro e w2 ⟨rfl, b2⟩
      go_wp2
      go_ret
      exact ⟨rfl, b2⟩
  · have D1 : decide (40000 < (l.length : Int)) = false := decide_eq_false (by omega)
    have D2 : decide (40000 < (m.length : Int)) = false := decide_eq_false (by omega)
    have hl4 : l.length ≤ 40000 := by omega
    have hm4 : m.length ≤ 40000 := by omega
    clear hbig hl hm
    go_enter Try.func19, Try.ntmps19
    go_wp2_with fail
    refine (lent_any A c l _ w r0 (by omega)).mono ?_
    rintro e w1 ⟨rfl, row1, b1⟩
    have r1 := r0.below b1 fun b hb h => h
    have s1 := s0.below b1 fun b hb h => h
    have hp1 := row1.lt
    clear r0 s0
    go_wp2_with fail
    refine (lent_any B c' m _ w1 s1 (by omega)).mono ?_
    rintro e w2 ⟨rfl, q2, b2⟩
    have row2 := row1.below b2 hp1
    have r2 := r1.below b2 fun b hb h => Nat.lt_trans h hp1
    have s2 := s1.below b2 fun b hb h => Nat.lt_trans h hp1
    have b2' := b1.trans (b2.mono b1.size)
    have hq2 := q2.lt
    have hpq : w.heap.size < w1.heap.size := hp1
    generalize w1.heap.size = qb at *
    clear row1 r1 s1 b1 b2
    go_wp2_with fail
    refine (hget_at (some ⟨w.heap.size, 0, none⟩) (l.length + 12) l.length l _ w2 row2.front rfl (by omega) (by omega)).mono ?_
    rintro e w3 ⟨e3, rfl, h3, b3⟩
    have row3 := row2.below b3 row2.lt
    have q3 := q2.below b3 q2.lt
    have r3 := r2.below b3 fun b hb h => Nat.lt_trans h row2.lt
    have s3 := s2.below b3 fun b hb h => Nat.lt_trans h row2.lt
    have b3' := b2'.trans (b3.mono b2'.size)
    have ba := (Below.refl w3.heap.size w3).alloc (Nat.le_refl _) (.cells (hd l).cs 55)
    have row4 := row3.below ba row3.lt
    have q4 := q3.below ba q3.lt
    have X4 := Blk.new w3 55 (hd l).cs
    have r4 := r3.below ba fun b hb h => Nat.lt_trans h row3.lt
    have s4 := s3.below ba fun b hb h => Nat.lt_trans h row3.lt
    have b4 := b3'.trans (ba.mono b3'.size)
    clear row2 q2 r2 s2  row3 q3 r3 s3  b3 b3' ba b2'
    generalize hx : hd l = x at *
    go_wp2_with fail
    generalize w3.alloc (.cells x.cs 55) = w4 at *
    generalize w3.heap.size = xb at *
    refine (rhget_any A c l _ w4 r4 (by omega) hcl).mono ?_
    rintro e w5 hp5
    obtain ⟨e5, rfl, h5, b5⟩ := head_post hp5
    rw [hx]
    have hee : e5 = e3 := by
      by_cases hy : isHead l
      · rw [h3.out.1 hy, h5.out.1 hy]
      · rw [h3.out.2 hy, h5.out.2 hy]
    subst hee
    clear hp5 h3 h5
    have row5 := row4.below b5 row4.lt
    have q5 := q4.below b5 q4.lt
    have X5 := X4.below b5 X4.lt
    have r5 := r4.below b5 fun b hb h => Nat.lt_trans h row4.lt
    have s5 := s4.below b5 fun b hb h => Nat.lt_trans h row4.lt
    have b5' := b4.trans (b5.mono b4.size)
    have ba := (Below.refl w5.heap.size w5).alloc (Nat.le_refl _) (.cells x.cs 55)
    have row6 := row5.below ba row5.lt
    have q6 := q5.below ba q5.lt
    have X6 := X5.below ba X5.lt
    have Y6 := Blk.new w5 55 x.cs
    have r6 := r5.below ba fun b hb h => Nat.lt_trans h row5.lt
    have s6 := s5.below ba fun b hb h => Nat.lt_trans h row5.lt
    have b6 := b5'.trans (ba.mono b5'.size)
    clear row4 q4 r4 s4 X4 row5 q5 r5 s5 X5 b5 b5' ba b4
    clear hx
    go_wp2_with fail
    generalize w5.alloc (.cells x.cs 55) = w6 at *
    generalize w5.heap.size = yb at *
    refine (hpick_at (some ⟨w.heap.size, 0, none⟩) (some ⟨qb, 0, none⟩) (l.length + 12) (m.length + 12) l.length m.length l m _ _ w6 row6.front q6.front rfl rfl (by omega) (by omega) (by omega) (by omega)).mono ?_
    rintro e w7 ⟨rfl, b7⟩
    have row7 := row6.below b7 row6.lt
    have q7 := q6.below b7 q6.lt
    have X7 := X6.below b7 X6.lt
    have Y7 := Y6.below b7 Y6.lt
    have r7 := r6.below b7 fun b hb h => Nat.lt_trans h row6.lt
    have s7 := s6.below b7 fun b hb h => Nat.lt_trans h row6.lt
    have b7' := b6.trans (b7.mono b6.size)
    have ba := (Below.refl w7.heap.size w7).alloc (Nat.le_refl _) (.cells (pk l m).1.cs 55)
    have row8 := row7.below ba row7.lt
    have q8 := q7.below ba q7.lt
    have X8 := X7.below ba X7.lt
    have Y8 := Y7.below ba Y7.lt
    have H8 := Blk.new w7 55 (pk l m).1.cs
    have r8 := r7.below ba fun b hb h => Nat.lt_trans h row7.lt
    have s8 := s7.below ba fun b hb h => Nat.lt_trans h row7.lt
    have b8 := b7'.trans (ba.mono b7'.size)
    clear row6 q6 r6 s6 X6 Y6 row7 q7 r7 s7 X7 Y7 b7 b7' ba b6
    have HPK := fun A B c c' P Q w hr hs h1 h2 h3 h4 => rhpick_any A B c c' l m P Q w hr hs h1 h2 h3 h4
    generalize pk l m = z at *
    obtain ⟨zh, zk⟩ := z
    simp only at HPK ⊢
    go_wp2_with fail
    generalize w7.alloc (.cells zh.cs 55) = w8 at *
    generalize w7.heap.size = hb at *
    refine (HPK A B c c' _ _ w8 r8 s8 (by omega) (by omega) hcl hcm).mono ?_
    clear HPK
    rintro e w9 ⟨rfl, b9⟩
    have row9 := row8.below b9 row8.lt
    have q9 := q8.below b9 q8.lt
    have X9 := X8.below b9 X8.lt
    have Y9 := Y8.below b9 Y8.lt
    have H9 := H8.below b9 H8.lt
    have r9 := r8.below b9 fun b hb h => Nat.lt_trans h row8.lt
    have s9 := s8.below b9 fun b hb h => Nat.lt_trans h row8.lt
    have b9' := b8.trans (b9.mono b8.size)
    have ba := (Below.refl w9.heap.size w9).alloc (Nat.le_refl _) (.cells zh.cs 55)
    have row10 := row9.below ba row9.lt
    have q10 := q9.below ba q9.lt
    have X10 := X9.below ba X9.lt
    have Y10 := Y9.below ba Y9.lt
    have H10 := H9.below ba H9.lt
    have I10 := Blk.new w9 55 zh.cs
    have r10 := r9.below ba fun b hb h => Nat.lt_trans h row9.lt
    have s10 := s9.below ba fun b hb h => Nat.lt_trans h row9.lt
    have b10 := b9'.trans (ba.mono b9'.size)
    clear row8 q8 r8 s8 X8 Y8 H8 row9 q9 r9 s9 X9 Y9 H9 b9 b9' ba b8
    go_upto_region 8 with fail
    generalize w9.alloc (.cells zh.cs 55) = w10 at *
    generalize w9.heap.size = ib at *
    have x0 : w10.cell? ⟨xb, 0, none⟩ = some (.int .i64 x.v) := X10.cell 0
    have x1 : w10.cell? ⟨xb, 1, none⟩ = some (.int .i64 x.s) := X10.cell 1
    have x2 : w10.cell? ⟨xb, 2, none⟩ = some (.int .i64 x.g) := X10.cell 2
    have x3 : w10.cell? ⟨xb, 3, none⟩ = some (.int .i64 x.u) := X10.cell 3
    have x4 : w10.cell? ⟨xb, 4, none⟩ = some (.int .i64 x.j) := X10.cell 4
    have x5 : w10.cell? ⟨xb, 5, none⟩ = some (.int .i64 x.nu) := X10.cell 5
    have x6 : w10.cell? ⟨xb, 6, none⟩ = some (.int .i64 x.pg) := X10.cell 6
    have x7 : w10.cell? ⟨xb, 7, none⟩ = some (.int .i64 x.rt) := X10.cell 7
    have x8 : w10.cell? ⟨xb, 8, none⟩ = some (.int .i64 x.sn) := X10.cell 8
    have y0 : w10.cell? ⟨yb, 0, none⟩ = some (.int .i64 x.v) := Y10.cell 0
    have y1 : w10.cell? ⟨yb, 1, none⟩ = some (.int .i64 x.s) := Y10.cell 1
    have y2 : w10.cell? ⟨yb, 2, none⟩ = some (.int .i64 x.g) := Y10.cell 2
    have y3 : w10.cell? ⟨yb, 3, none⟩ = some (.int .i64 x.u) := Y10.cell 3
    have y4 : w10.cell? ⟨yb, 4, none⟩ = some (.int .i64 x.j) := Y10.cell 4
    have y5 : w10.cell? ⟨yb, 5, none⟩ = some (.int .i64 x.nu) := Y10.cell 5
    have y6 : w10.cell? ⟨yb, 6, none⟩ = some (.int .i64 x.pg) := Y10.cell 6
    have y7 : w10.cell? ⟨yb, 7, none⟩ = some (.int .i64 x.rt) := Y10.cell 7
    have y8 : w10.cell? ⟨yb, 8, none⟩ = some (.int .i64 x.sn) := Y10.cell 8
    have h0 : w10.cell? ⟨hb, 0, none⟩ = some (.int .i64 zh.v) := H10.cell 0
    have h1 : w10.cell? ⟨hb, 1, none⟩ = some (.int .i64 zh.s) := H10.cell 1
    have h2 : w10.cell? ⟨hb, 2, none⟩ = some (.int .i64 zh.g) := H10.cell 2
    have h3 : w10.cell? ⟨hb, 3, none⟩ = some (.int .i64 zh.u) := H10.cell 3
    have h4 : w10.cell? ⟨hb, 4, none⟩ = some (.int .i64 zh.j) := H10.cell 4
    have h5 : w10.cell? ⟨hb, 5, none⟩ = some (.int .i64 zh.nu) := H10.cell 5
    have h6 : w10.cell? ⟨hb, 6, none⟩ = some (.int .i64 zh.pg) := H10.cell 6
    have h7 : w10.cell? ⟨hb, 7, none⟩ = some (.int .i64 zh.rt) := H10.cell 7
    have h8 : w10.cell? ⟨hb, 8, none⟩ = some (.int .i64 zh.sn) := H10.cell 8
    have i0 : w10.cell? ⟨ib, 0, none⟩ = some (.int .i64 zh.v) := I10.cell 0
    have i1 : w10.cell? ⟨ib, 1, none⟩ = some (.int .i64 zh.s) := I10.cell 1
    have i2 : w10.cell? ⟨ib, 2, none⟩ = some (.int .i64 zh.g) := I10.cell 2
    have i3 : w10.cell? ⟨ib, 3, none⟩ = some (.int .i64 zh.u) := I10.cell 3
    have i4 : w10.cell? ⟨ib, 4, none⟩ = some (.int .i64 zh.j) := I10.cell 4
    have i5 : w10.cell? ⟨ib, 5, none⟩ = some (.int .i64 zh.nu) := I10.cell 5
    have i6 : w10.cell? ⟨ib, 6, none⟩ = some (.int .i64 zh.pg) := I10.cell 6
    have i7 : w10.cell? ⟨ib, 7, none⟩ = some (.int .i64 zh.rt) := I10.cell 7
    have i8 : w10.cell? ⟨ib, 8, none⟩ = some (.int .i64 zh.sn) := I10.cell 8
    have EX := fun w => hd_equal x w
    have EZ := fun w => hd_equal zh w
    have KP := hide (kept_any (some ⟨w.heap.size, 0, none⟩) A (l.length + 12) c l _ _ w10 (row10.rd (P := fun _ => True) trivial) r10 (by omega) (Nat.le_refl _))
    have KQ := hide (fun w11 (d : Drew w10 w11) => kept_any (some ⟨qb, 0, none⟩) B (m.length + 12) c' m _ _ w11 (d.rd (q10.rd (P := fun _ => True) trivial)) (d.rd s10) (by omega) (Nat.le_refl _))
    have HB := hide b10
    have hz := b10.size
    clear X10 Y10 H10 I10 row10 q10 r10 s10 b10
    go_wp2_with (first | (go_at_call 26; with_reducible refine Calls.mono KP.out ?_; rintro r w11 ⟨rfl, d11⟩) | (go_at_call 26; refine (KQ.out _ d11).mono ?_; rintro r w12 ⟨rfl, d12⟩) | (go_at_call 32; refine (awake12_any _).mono ?_; rintro r w13 ⟨rfl, b13⟩))
    go_ret
    exact ⟨rfl, HB.out.trans (((d11.trans d12).below _).trans (b13.mono (by rw [(d11.trans d12).heap]; exact hz)))⟩
end Go.Proofs.Ytdkcjmpikmnedaa
