/- FrameGets, FrameTurned, walked. -/
import Derived.Test.YtdkcjmpikmnedaaLaw10
import Derived.Test.YtdkcjmpikmnedaaFrameRGet
namespace Go.Proofs.Ytdkcjmpikmnedaa
open Go.RowKit

/-- What bytes are got as. -/
structure Got where
  k : Int
  e : Int
  s : Int
  d : List B8
  z : Int
  er : Int
open Classical in
noncomputable def got (l : List B8) : Got := if isFrame l then ⟨hKind l, hEpoch l, hSeq l, hData l, sectors (hLen l), 0⟩ else ⟨0, 0, 0, [], 0, 4⟩
/-- A frame got, as a value. -/
abbrev gotV (g : Got) (A : Option Addr) (c : Nat) : Value := .agg #[.int .i64 g.k, .int .i64 g.e, .int .i64 g.s, .slice A g.d.length c]
theorem got_post {w : World} {l : List B8} {r : Ending} {w' : World} (h : GetPost w l r w') :
    ∃ A c, r = .returned (.tuple #[gotV (got l) A c, .int .i64 (got l).z, .int .i64 (got l).er]) ∧ OwnB w' w.heap.size (.slice A (got l).d.length c) (got l).d ∧ Below w.heap.size w w' := by
  obtain ⟨⟨hy, v, rfl, own⟩ | ⟨hno, rfl⟩, hb⟩ := h
  · obtain ⟨A, c, rfl, _⟩ := own.form
    unfold got gotV
    rw [if_pos hy]
    exact ⟨A, c, rfl, own, hb⟩
  · unfold got gotV
    rw [if_neg hno]
    exact ⟨none, 0, rfl, OwnB.nil _ _, hb⟩
theorem got_len (l : List B8) : (got l).d.length ≤ l.length := by
  unfold got
  split
  · rw [show (Got.mk (hKind l) (hEpoch l) (hSeq l) (hData l) (sectors (hLen l)) 0).d = hData l from rfl]
    unfold hData
    rw [List.length_take, List.length_drop]
    omega
  · simp
theorem rget_any (A : Option Addr) (c n : Nat) (l : List B8) (P : Nat → Prop) (w : World) (hr : Rd w P A (bs l)) (hn : l.length = n) (hl : l.length ≤ 1000000) (hc : l.length ≤ c) :
    Calls Try.prog 45 #[.slice A n c] w (GetPost w l) := by
  subst hn
  rcases Nat.lt_or_ge l.length 512 with h | h
  · exact rget_short A c l w h
  · exact rget_long A c l P w hr h hl hc

set_option maxHeartbeats 800000 in
theorem frameGets_any (A : Option Addr) (c : Nat) (l : List B8) (P : Nat → Prop) (w : World) (hr : Rd w P A (bs l)) (hl : l.length ≤ 140737488351232) (hc : l.length ≤ c) :
    Calls Try.prog 12 #[.slice A l.length c] w fun r w' => r = .returned (.bool true) ∧ Below w.heap.size w w' := by
  have r0 := hr.imp (Q := (· < w.heap.size)) fun b hb _ => hb
  go_enter Try.func12, Try.ntmps12
  go_wp2_with fail
  refine (awake10_any w).mono ?_
  rintro r w2 ⟨rfl, b2⟩
  have r2 := r0.below b2 fun b hb h => h
  clear hr r0
  by_cases hbig : 3000 < l.length
  · have D : decide (3000 < (l.length : Int)) = true := decide_eq_true (by omega)
    go_wp2
    go_ret
    exact ⟨rfl, b2⟩
  · have D : decide (3000 < (l.length : Int)) = false := decide_eq_false (by omega)
    have hl3 : l.length ≤ 3000 := by omega
    clear hbig hl
    go_wp2_with fail
    refine (lent_any A c l _ w2 r2 (by omega)).mono ?_
    rintro r w3 ⟨rfl, row3, b3⟩
    have r3 := r2.below b3 fun b hb h => Nat.lt_of_lt_of_le h b2.size
    have b3' := b2.trans (b3.mono b2.size)
    have hq := row3.lt
    generalize w2.heap.size = q at *
    have hrd3 : Rd w3 (fun _ => True) (some ⟨q, 0, none⟩) (bs l) := by
      have := (row3.rd (P := fun _ => True) trivial).take l.length
      rwa [bs_append, List.take_append_of_le_length (by simp), List.take_of_length_le (by simp)] at this
    clear r2 b2 b3
    go_wp2_with fail
    refine (get_any (some ⟨q, 0, none⟩) (l.length + 12) l.length l _ w3 hrd3 rfl (by omega) (by omega)).mono ?_
    rintro r w4 hpost
    obtain ⟨A4, c4, rfl, own4, b4⟩ := got_post hpost
    have r4 := r3.below b4 fun b hb h => hb
    have row4 := row3.below b4 hq
    have b4' := b3'.trans (b4.mono b3'.size)
    have d4 : Rd w4 (fun _ => True) A4 (bs (got l).d) := own4.rd fun _ _ _ _ => trivial
    clear hpost own4 hrd3 r3 row3 b3'
    have hgl := got_len l
    have HPOST := fun w r w' => got_post (w := w) (l := l) (r := r) (w' := w')
    generalize got l = G at *
    unfold gotV at *
    have b5 := (Below.refl w4.heap.size w4).alloc (Nat.le_refl _) (.cells #[.int .i64 G.k, .int .i64 G.e, .int .i64 G.s, .slice A4 G.d.length c4] 68)
    have B5 := Blk.new w4 68 #[.int .i64 G.k, .int .i64 G.e, .int .i64 G.s, .slice A4 G.d.length c4]
    have r5 := r4.below b5 fun b hb h => hb
    have row5 := row4.below b5 row4.lt
    have d5 := (d4.imp (Q := (· < w4.heap.size)) fun b hb _ => hb).below b5 fun b hb h => h
    have b5' := b4'.trans (b5.mono b4'.size)
    go_wp2_with fail
    generalize w4.alloc (.cells #[.int .i64 G.k, .int .i64 G.e, .int .i64 G.s, .slice A4 G.d.length c4] 68) = w5 at *
    clear r4 row4 d4 b4 b4' b5
    refine (rget_any A c l.length l _ w5 r5 rfl (by omega) hc).mono ?_
    rintro r w6 hpost
    obtain ⟨A6, c6, rfl, own6, b6⟩ := HPOST _ _ _ hpost
    have B6 := B5.below b6 B5.lt
    have r6 := r5.below b6 fun b hb h => hb
    have row6 := row5.below b6 row5.lt
    have d6 := d5.below b6 fun b hb h => hb
    have e6 : Rd w6 (fun _ => True) A6 (bs G.d) := own6.rd fun _ _ _ _ => trivial
    have b6' := b5'.trans (b6.mono b5'.size)
    clear hpost HPOST own6 B5 r5 row5 d5 b5' b6
    have b7 := (Below.refl w6.heap.size w6).alloc (Nat.le_refl _) (.cells #[.int .i64 G.k, .int .i64 G.e, .int .i64 G.s, .slice A6 G.d.length c6] 68)
    have B7 := B6.below b7 B6.lt
    have r7 := r6.below b7 fun b hb h => hb
    have row7 := row6.below b7 row6.lt
    have d7 := d6.below b7 fun b hb h => hb
    have e7 := (e6.imp (Q := (· < w6.heap.size)) fun b hb _ => hb).below b7 fun b hb h => h
    have b7' := b6'.trans (b7.mono b6'.size)
    have HS := hide (sameFrame_at G.k G.e G.s A4 A6 c4 c6 G.d.length G.d _ _ rfl _ d7 e7 (by omega))
    have c0 : w6.cell? ⟨w4.heap.size, 0, none⟩ = some (.int .i64 G.k) := B6.cell 0
    have c1 : w6.cell? ⟨w4.heap.size, 1, none⟩ = some (.int .i64 G.e) := B6.cell 1
    have c2 : w6.cell? ⟨w4.heap.size, 2, none⟩ = some (.int .i64 G.s) := B6.cell 2
    have c3 : w6.cell? ⟨w4.heap.size, 3, none⟩ = some (.slice A4 G.d.length c4) := B6.cell 3
    have hlt6 := B6.lt
    have KK := hide (fun w8 (b8 : Below (w6.alloc (.cells #[.int .i64 G.k, .int .i64 G.e, .int .i64 G.s, .slice A6 G.d.length c6] 68)).heap.size (w6.alloc (.cells #[.int .i64 G.k, .int .i64 G.e, .int .i64 G.s, .slice A6 G.d.length c6] 68)) w8) =>
      kept_any (some ⟨q, 0, none⟩) A (l.length + 12) c l (fun _ => True) _ w8 ((row7.below b8 row7.lt).rd trivial) (r7.below b8 fun b hb h => hb) (by omega) (Nat.le_refl _))
    have HB := hide b7'
    have hz := b7'.size
    clear B6 B7 r6 r7 row6 row7 d6 d7 e6 e7 b6' b7 b7'
    go_wp2_with (first | (go_at_call 46; refine HS.out.mono ?_; rintro r w8 ⟨rfl, b8⟩) | (go_at_call 26; refine (KK.out _ b8).mono ?_; rintro r w9 ⟨rfl, d9⟩))
    go_ret
    exact ⟨rfl, (HB.out.trans (b8.mono hz)).trans (d9.below _)⟩
theorem xor_byte (y x : B8) : bits .xor .u8 (y.toNat : Int) (x.toNat : Int) = ((y ^^^ x).toNat : Int) := u8_xor y x
theorem below_only2 {a w w' : World} {v : Value} {base : Nat} {l : List B8} (h : OwnB w base v l) (hg : w.grownBy w' v.ownBlock) {B : Nat} (hB : B ≤ base) (hBw : B ≤ w.heap.size) (hb : Below B a w) : Below B a w' :=
  hb.trans ⟨hg.os, hg.tape, hg.output, hg.size, fun k hk => hg.block k (by omega) (fun e => by have := (h.lt k e.symm).1; omega)⟩
set_option maxRecDepth 100000 in
set_option maxHeartbeats 1600000 in
theorem frameTurned_any (k e s : Int) (A M : Option Addr) (c cm : Nat) (d m : List B8) (P Q : Nat → Prop) (at_ : Int) (by_ : B8) (w : World) (hr : Rd w P A (bs d)) (hd : d.length ≤ 140737488351232) (hm : Rd w Q M (bs m)) (hml : m.length ≤ 140737488351232) :
    Calls Try.prog 13 #[.agg #[.int .i64 k, .int .i64 e, .int .i64 s, .slice A d.length c], .int .i64 at_, .int .u8 (by_.toNat : Int), .slice M m.length cm] w fun r w' => r = .returned (.bool true) ∧ Below w.heap.size w w' := by
  have b0 : Below w.heap.size w (w.alloc (.cells #[.int .i64 k, .int .i64 e, .int .i64 s, .slice A d.length c] 68)) := (Below.refl _ _).alloc (Nat.le_refl _) _
  have B0 : Blk (w.alloc (.cells #[.int .i64 k, .int .i64 e, .int .i64 s, .slice A d.length c] 68)) w.heap.size 68 #[.int .i64 k, .int .i64 e, .int .i64 s, .slice A d.length c] := Blk.new _ _ _
  have r0 := (hr.imp (Q := (· < w.heap.size)) fun b hb _ => hb).below b0 fun _ _ hb => hb
  have m0 := (hm.imp (Q := (· < w.heap.size)) fun b hb _ => hb).below b0 fun _ _ hb => hb
  go_enter Try.func13, Try.ntmps13
  go_wp2_with fail
  generalize w.alloc (.cells #[.int .i64 k, .int .i64 e, .int .i64 s, .slice A d.length c] 68) = w1 at *
  refine (awake10_any w1).mono ?_
  rintro r w2 ⟨rfl, b1⟩
  have B2 := B0.below b1 B0.lt
  have b2 := b0.trans (b1.mono b0.size)
  have r2 := r0.below b1 fun b hb _ => hb
  have m2 := m0.below b1 fun b hb _ => hb
  clear B0 b0 r0 m0 b1 hr hm
  have hw2 := B2.lt
  have c0 : w2.cell? ⟨w.heap.size, 0, none⟩ = some (.int .i64 k) := B2.cell 0
  have c1 : w2.cell? ⟨w.heap.size, 1, none⟩ = some (.int .i64 e) := B2.cell 1
  have c2 : w2.cell? ⟨w.heap.size, 2, none⟩ = some (.int .i64 s) := B2.cell 2
  have c3 : w2.cell? ⟨w.heap.size, 3, none⟩ = some (.slice A d.length c) := B2.cell 3
  by_cases hbig : 2000 < d.length + m.length
  · have D : decide (2000 < (d.length : Int) + (m.length : Int)) = true := decide_eq_true (by omega)
    go_wp2
    go_ret
    exact ⟨rfl, b2⟩
  · have D : decide (2000 < (d.length : Int) + (m.length : Int)) = false := decide_eq_false (by omega)
    go_wp2_with fail
    have hsz : (putRes k e s d).1.length ≤ 40000 := putRes_len k e s d
    have hpos : (putRes k e s d).2 = 0 → 512 ≤ (putRes k e s d).1.length := by
      unfold putRes
      split
      · split
        · rw [frameBytes_length]; unfold sectors; omega
        · simp
      · simp
    refine (rput_all k e s A c d.length d _ w2 rfl r2 hd).mono ?_
    rintro r w3 ⟨A3, n3, rfl, own3, b3⟩
    generalize putRes k e s d = R at *
    obtain ⟨F, er⟩ := R
    simp only at hsz hpos own3 ⊢
    have b3' := b2.trans (b3.mono b2.size)
    have m3 := m2.below b3 fun b hb _ => hb
    clear B2 r2 m2 c0 c1 c2 c3
    by_cases her : er = 0
    · subst her
      have hF := hpos rfl
      clear hpos
      have own3' := own3.mono (Nat.le_succ w2.heap.size)
      go_wp2_with (with_reducible refine stop_append ?_)
      unfold Stopped
      refine wpList_append_u8 rfl _ _ rfl w2.heap.size (.slice A3 F.length n3) F rfl own3' _ M m.length cm m rfl rfl m3 (by omega) b3.size ?_
      intro v5 w5 own5 g5 hx
      have b5 := below_only2 own3' g5 (Nat.le_of_lt hw2) b3'.size b3'
      obtain ⟨g, n5, rfl, row5, hg, hn5⟩ := own5.row (by rw [List.length_append]; omega)
      clear own3 own3' m3 b3' b3 g5 hx own5
      have hl5 : (F ++ m).length ≤ 42000 := by rw [List.length_append]; omega
      have hl0 : 0 < (F ++ m).length := by rw [List.length_append]; omega
      generalize F ++ m = L at *
      generalize hN : L.length = N at *
      go_wp2_with fail
      obtain ⟨hp0, hp1⟩ := pick_range at_ (N : Int) (by omega)
      have PC := pick_any at_ (N : Int) w5 (by omega)
      obtain ⟨p, hp⟩ := Int.eq_ofNat_of_zero_le hp0
      rw [hp] at PC hp1
      clear hp hp0
      refine PC.mono ?_
      clear PC
      rintro r w5' ⟨rfl, rfl⟩
      have hpN : p < L.length := by omega
      obtain ⟨y, hy⟩ : ∃ y, y = L[p] := ⟨_, rfl⟩
      have k5 := row5.cell p hpN
      rw [← hy] at k5
      have f5 := row5.frozen p
      have hg5 := row5.lt
      obtain ⟨row6, g6⟩ := row5.stored p (y ^^^ by_)
      have hx := xor_byte y by_
      rw [← hx] at row6 g6
      have hl6 : (L.set p (y ^^^ by_)).length = N := by rw [List.length_set, hN]
      have b6 := b5.trans (below_of_only g6 (by omega) b5.size)
      clear hy g6 row5 hx
      generalize L.set p (y ^^^ by_) = L6 at *
      go_wp2_with fail
      generalize w5.setCell ⟨g, p, none⟩ (.int .u8 (bits .xor .u8 (y.toNat : Int) (by_.toNat : Int))) = w6 at *
      clear k5 f5 hg5 b5
      have hg6 := row6.lt
      refine (get_any (some ⟨g, 0, none⟩) n5 N L6 (fun _ => True) w6 (row6.rd trivial) hl6 (by omega) (by omega)).mono ?_
      rintro r w7 hpost
      obtain ⟨A7, c7, rfl, own7, b7⟩ := got_post hpost
      have row7 := row6.below b7 hg6
      have b7' := b6.trans (b7.mono b6.size)
      have d7 : Rd w7 (fun _ => True) A7 (bs (got L6).d) := own7.rd fun _ _ _ _ => trivial
      clear hpost own7 row6 b6 b7
      have hgl := got_len L6
      have HPOST := fun w r w' => got_post (w := w) (l := L6) (r := r) (w' := w')
      generalize got L6 = G at *
      unfold gotV at *
      have b8 := (Below.refl w7.heap.size w7).alloc (Nat.le_refl _) (.cells #[.int .i64 G.k, .int .i64 G.e, .int .i64 G.s, .slice A7 G.d.length c7] 68)
      have B8_ := Blk.new w7 68 #[.int .i64 G.k, .int .i64 G.e, .int .i64 G.s, .slice A7 G.d.length c7]
      have row8 := row7.below b8 row7.lt
      have d8 := (d7.imp (Q := (· < w7.heap.size)) fun b hb _ => hb).below b8 fun b hb h => h
      have b8' := b7'.trans (b8.mono b7'.size)
      go_wp2_with fail
      generalize w7.alloc (.cells #[.int .i64 G.k, .int .i64 G.e, .int .i64 G.s, .slice A7 G.d.length c7] 68) = w8 at *
      clear row7 d7 b7' b8
      refine (rget_any (some ⟨g, 0, none⟩) n5 N L6 (fun _ => True) w8 (row8.rd trivial) hl6 (by omega) (by omega)).mono ?_
      rintro r w9 hpost
      obtain ⟨A9, c9, rfl, own9, b9⟩ := HPOST _ _ _ hpost
      have B9 := B8_.below b9 B8_.lt
      have d9 := d8.below b9 fun b hb h => Nat.lt_trans h B8_.lt
      have e9 : Rd w9 (fun _ => True) A9 (bs G.d) := own9.rd fun _ _ _ _ => trivial
      have b9' := b8'.trans (b9.mono b8'.size)
      clear hpost HPOST own9 B8_ d8 b8' b9 row8
      have b10 := (Below.refl w9.heap.size w9).alloc (Nat.le_refl _) (.cells #[.int .i64 G.k, .int .i64 G.e, .int .i64 G.s, .slice A9 G.d.length c9] 68)
      have hlt9 := B9.lt
      have d10 := d9.below b10 fun b hb h => hb
      have e10 := (e9.imp (Q := (· < w9.heap.size)) fun b hb _ => hb).below b10 fun b hb h => h
      have HB := hide (b9'.trans (b10.mono b9'.size))
      have HS := hide (sameFrame_at G.k G.e G.s A7 A9 c7 c9 G.d.length G.d _ _ rfl _ d10 e10 (by omega))
      have c0 : w9.cell? ⟨w7.heap.size, 0, none⟩ = some (.int .i64 G.k) := B9.cell 0
      have c1 : w9.cell? ⟨w7.heap.size, 1, none⟩ = some (.int .i64 G.e) := B9.cell 1
      have c2 : w9.cell? ⟨w7.heap.size, 2, none⟩ = some (.int .i64 G.s) := B9.cell 2
      have c3 : w9.cell? ⟨w7.heap.size, 3, none⟩ = some (.slice A7 G.d.length c7) := B9.cell 3
      have hz := HB.out.size
      clear B9 d9 d10 e9 e10 b9' b10
      go_wp2_with (first | (go_at_call 46; refine HS.out.mono ?_; rintro r w11 ⟨rfl, b11⟩))
      go_ret
      exact ⟨rfl, HB.out.trans (b11.mono hz)⟩
    · have hb : (er != 0) = true := by rw [bne_iff_ne]; exact her
      have hb' : (er == 0) = false := by rw [beq_eq_false_iff_ne]; exact her
      clear hpos
      go_wp2
      go_ret
      exact ⟨rfl, b3'⟩
end Go.Proofs.Ytdkcjmpikmnedaa
