/- FrameBack, walked. -/
import Derived.Test.YtdkcjmpikmnedaaLaw10
namespace Go.Proofs.Ytdkcjmpikmnedaa
open Go.RowKit

theorem flip_byte (y : B8) (n : Nat) : bits .xor .u8 (y.toNat : Int) (2 ^ n % 256) = ((y ^^^ (1#8 <<< n)).toNat : Int) := by
  have e : (2 ^ n % 256 : Int) = ((1#8 <<< n).toNat : Int) := by
    rw [BitVec.toNat_shiftLeft, show (1#8).toNat = 1 from rfl, Nat.shiftLeft_eq, Nat.one_mul]
    simp
  rw [e, u8_xor]
/-- What Get answers, at least its error. -/
theorem get_errno (A : Option Addr) (c n : Nat) (l : List B8) (P : Nat → Prop) (w : World) (hr : Rd w P A (bs l)) (hn : l.length = n) (hl : l.length ≤ 1000000) (hc : l.length ≤ c) :
    Calls Try.prog 44 #[.slice A n c] w fun r w' => ∃ (k e s : Int) (A' : Option Addr) (n' c' : Nat) (z y : Int), r = .returned (.tuple #[.agg #[.int .i64 k, .int .i64 e, .int .i64 s, .slice A' n' c'], .int .i64 z, .int .i64 y]) ∧ ((isFrame l ∧ y = 0) ∨ (¬ isFrame l ∧ y = 4)) ∧ Below w.heap.size w w' := by
  refine (get_any A c n l P w hr hn hl hc).mono ?_
  rintro r w' ⟨⟨hy, v, rfl, own⟩ | ⟨hno, rfl⟩, hb⟩
  · obtain ⟨A', c', rfl, _⟩ := own.form
    exact ⟨_, _, _, A', _, c', _, _, rfl, .inl ⟨hy, rfl⟩, hb⟩
  · exact ⟨_, _, _, _, _, _, _, _, rfl, .inr ⟨hno, rfl⟩, hb⟩

set_option maxRecDepth 100000 in
set_option maxHeartbeats 1600000 in
theorem frameBack_any (k e s : Int) (A M : Option Addr) (c cm : Nat) (d m : List B8) (P Q : Nat → Prop) (bit cut : Int) (w : World) (hr : Rd w P A (bs d)) (hd : d.length ≤ 140737488351232) (hm : Rd w Q M (bs m)) (hml : m.length ≤ 140737488351232) :
    Calls Try.prog 15 #[.agg #[.int .i64 k, .int .i64 e, .int .i64 s, .slice A d.length c], .slice M m.length cm, .int .i64 bit, .int .i64 cut] w fun r w' => r = .returned (.bool true) ∧ Below w.heap.size w w' := by
  have b0 : Below w.heap.size w (w.alloc (.cells #[.int .i64 k, .int .i64 e, .int .i64 s, .slice A d.length c] 68)) := (Below.refl _ _).alloc (Nat.le_refl _) _
  have B0 : Blk (w.alloc (.cells #[.int .i64 k, .int .i64 e, .int .i64 s, .slice A d.length c] 68)) w.heap.size 68 #[.int .i64 k, .int .i64 e, .int .i64 s, .slice A d.length c] := Blk.new _ _ _
  have r0 := (hr.imp (Q := (· < w.heap.size)) fun b hb _ => hb).below b0 fun _ _ hb => hb
  have m0 := (hm.imp (Q := (· < w.heap.size)) fun b hb _ => hb).below b0 fun _ _ hb => hb
  go_enter Try.func15, Try.ntmps15
  go_wp2_with fail
  generalize w.alloc (.cells #[.int .i64 k, .int .i64 e, .int .i64 s, .slice A d.length c] 68) = w1 at *
  refine (awake10_any w1).mono ?_
  rintro r w2 ⟨rfl, b1⟩
  have B2 := B0.below b1 B0.lt
  have b2 := b0.trans (b1.mono b0.size)
  have r2 := r0.below b1 fun b hb _ => hb
  have m2 := m0.below b1 fun b hb _ => hb
  clear B0 b0 r0 m0 b1 hr hm
  have hw2 := B2.lt
  have c0 : w2.cell? ⟨w.heap.size, 0, none⟩ = some (.int .i64 k) := B2.cell 0
  have c1 : w2.cell? ⟨w.heap.size, 1, none⟩ = some (.int .i64 e) := B2.cell 1
  have c2 : w2.cell? ⟨w.heap.size, 2, none⟩ = some (.int .i64 s) := B2.cell 2
  have c3 : w2.cell? ⟨w.heap.size, 3, none⟩ = some (.slice A d.length c) := B2.cell 3
  by_cases hbig : 2000 < d.length + m.length
  · have D : decide (2000 < (d.length : Int) + (m.length : Int)) = true := decide_eq_true (by omega)
    go_wp2
    go_ret
    exact ⟨rfl, b2⟩
  · have D : decide (2000 < (d.length : Int) + (m.length : Int)) = false := decide_eq_false (by omega)
    by_cases hok : okNums k e s
    · obtain ⟨h1, h2, h3, h4, h5, h6⟩ := hok
      obtain ⟨kn, rfl⟩ := Int.eq_ofNat_of_zero_le h1
      obtain ⟨en, rfl⟩ := Int.eq_ofNat_of_zero_le h3
      obtain ⟨sn, rfl⟩ := Int.eq_ofNat_of_zero_le h5
      have hk : kn ≤ 255 := by omega
      have he : en ≤ 1099511627776 := by omega
      have hs : sn ≤ 1099511627776 := by omega
      have hd2 : d.length ≤ 2000 := by omega
      have hm2 : m.length ≤ 2000 := by omega
      clear h1 h2 h3 h4 h5 h6 hbig
      go_wp2_with fail
      refine (put_at kn en sn d.length A c d _ w2 rfl hk he hs (by omega) r2).mono ?_
      rintro r w3 ⟨g, hg, rfl, row3, b3⟩
      have B3 := B2.below b3 B2.lt
      have b3' := b2.trans (b3.mono b2.size)
      have r3 := r2.below b3 fun b hb _ => hb
      have m3 := m2.below b3 fun b hb _ => hb
      have hgw : w.heap.size < g := Nat.lt_of_lt_of_le B2.lt hg
      clear B2 b2 r2 m2 c0 c1 c2 c3 b3 hg hw2
      have hfl := frameBytes_length kn en sn d
      have hN1 : 512 * sectors d.length ≤ d.length + 543 := by unfold sectors; omega
      have hN2 : d.length + 543 < 512 * sectors d.length + 512 := by unfold sectors; omega
      have HPG := fun t n A c P w hn hr hl hc => get_put kn en sn d.length n A c d t P w hk he hs rfl (by omega) hn hr hl hc
      have HCUT := cut_none kn en sn d hk he hs (by omega)
      have HFLIP := flip_none kn en sn d hk he hs (by omega)
      generalize frameBytes kn en sn d = F at *
      generalize sectors d.length = q at *
      generalize hNN : 512 * q = N at *
      go_wp2_with fail
      have CP := copy_any (some ⟨g, 0, none⟩) N F (fun _ => True) w3 (row3.rd trivial) (by omega)
      rw [hfl] at CP
      refine CP.mono ?_
      rintro r w4 ⟨⟨v4, rfl, own4⟩, b4⟩
      clear CP
      have B4 := B3.below b4 B3.lt
      have b4' := b3'.trans (b4.mono b3'.size)
      have r4 := r3.below b4 fun b hb _ => hb
      have m4 := m3.below b4 fun b hb _ => hb
      have row4 := row3.below b4 row3.lt
      have hg3 := row3.lt
      have hw3 := B3.lt
      have hb4 := b4.size
      clear B3 b3' r3 m3 row3 b4
      go_wp2_with (with_reducible refine stop_append ?_)
      unfold Stopped
      refine wpList_append_u8 rfl _ _ rfl w3.heap.size v4 F rfl own4 _ M m.length cm m rfl rfl m4 (by omega) (by have := hb4; omega) ?_
      intro v5 w5 own5 g5 hx
      clear hx
      have ne4 : ∀ x, x < w3.heap.size → v4.ownBlock ≠ some x := fun x hx e => by have := (own4.lt x e).1; omega
      have B5 := B4.grown g5 (fun e => ne4 _ hw3 e.symm)
      have b5 := b4'.trans (below_own own4 g5 (Nat.le_of_lt hw3) b4'.size)
      have r5 := r4.only g5 (fun b hb e => ne4 b (Nat.lt_trans hb hw3) e.symm)
      have row5 := row4.only g5 (fun e => ne4 _ hg3 e.symm)
      obtain ⟨A5, n5, hv5, hn5⟩ := own5.form
      have own5' := own5
      rw [hv5] at own5'
      have hl5 : (F ++ m).length = N + m.length := by rw [List.length_append, hfl]
      have rd5 : Rd w5 (fun _ => True) A5 (bs (F ++ m)) := own5'.rd fun _ _ _ _ => trivial
      rw [hl5] at hv5 hn5
      subst hv5
      clear B4 b4' r4 row4 g5 own4 m4 own5 own5' ne4 hb4
      go_wp2_with fail
      refine (HPG m (N + m.length) A5 n5 _ w5 hl5 rd5 (by omega) hn5).mono ?_
      rintro r w6 ⟨A6, n6, rfl, r6, own6, b6⟩
      have B6 := B5.below b6 B5.lt
      have b6' := b5.trans (b6.mono b5.size)
      have r6a := r5.below b6 fun b hb _ => hb
      have row6 := row5.below b6 row5.lt
      clear B5 b5 r5 row5 rd5 own6 b6
      have hw6 := B6.lt
      have hg6 := row6.lt
      have c0 : w6.cell? ⟨w.heap.size, 0, none⟩ = some (.int .i64 kn) := B6.cell 0
      have c1 : w6.cell? ⟨w.heap.size, 1, none⟩ = some (.int .i64 en) := B6.cell 1
      have c2 : w6.cell? ⟨w.heap.size, 2, none⟩ = some (.int .i64 sn) := B6.cell 2
      have c3 : w6.cell? ⟨w.heap.size, 3, none⟩ = some (.slice A d.length c) := B6.cell 3
      have b7 := (Below.refl w6.heap.size w6).alloc (Nat.le_refl _) (.cells #[.int .i64 kn, .int .i64 en, .int .i64 sn, .slice A6 d.length n6] 68)
      have r7 := r6a.below b7 fun b hb _ => hb
      have e7 := (r6.imp (Q := (· < w6.heap.size)) fun b hb _ => hb).below b7 fun b hb _ => hb
      have HF := hide (sameFrame_at kn en sn A A6 c n6 d.length d _ _ rfl _ r7 e7 (by omega))
      have row7 := row6.below b7 hg6
      have b7' := b6'.trans (b7.mono b6'.size)
      have D1 : decide ((N : Int) < 32 + (d.length : Int)) = false := decide_eq_false (by omega)
      have D2 : decide (32 + (d.length : Int) + 512 ≤ (N : Int)) = false := decide_eq_false (by omega)
      have D3 : (512 * (q : Int) != (N : Int)) = false := by simp; omega
      clear b7 r6 r7 e7 r6a
      go_wp2_with (go_at_call 46; refine HF.out.mono ?_; rintro r w8 ⟨rfl, b8⟩)
      have hbz := b7'.size
      have row8 := row7.below b8 row7.lt
      have b8' := b7'.trans (b8.mono b7'.size)
      clear HF row7 b7' b8 B6 b6' row6 hw6 hg6 c0 c1 c2 c3 D1 D2 D3 hbz
      obtain ⟨hp0, hp1⟩ := pick_range cut (N : Int) (by omega)
      have PC := pick_any cut (N : Int) w8 (by omega)
      obtain ⟨p, hp⟩ := Int.eq_ofNat_of_zero_le hp0
      rw [hp] at PC hp1
      clear hp hp0
      refine PC.mono ?_
      clear PC
      rintro r w8' ⟨rfl, rfl⟩
      go_wp2_with fail
      have hpN : p < N := by omega
      have htl : (F.take p).length = p := by rw [List.length_take]; omega
      refine (get_none (some ⟨g, 0, none⟩) N p (F.take p) (fun _ => True) w8 (by rw [bs_take]; exact (row8.rd trivial).take p) htl (by omega) (by omega) (HCUT p (by omega))).mono ?_
      rintro r w9 ⟨rfl, b9⟩
      have row9 := row8.below b9 row8.lt
      have b9' := b8'.trans (b9.mono b8'.size)
      clear row8 b8' b9 htl HCUT
      have row10 := row9.alloc (.cells #[.int .i64 0, .int .i64 0, .int .i64 0, .slice none 0 0] 68)
      have b10 := b9'.alloc b9'.size (.cells #[.int .i64 0, .int .i64 0, .int .i64 0, .slice none 0 0] 68)
      go_wp2_with fail
      generalize w9.alloc (.cells #[.int .i64 0, .int .i64 0, .int .i64 0, .slice none 0 0] 68) = w10 at *
      clear row9 b9'
      obtain ⟨hp0, hp1⟩ := pick_range bit (8 * (N : Int)) (by omega)
      have PC := pick_any bit (8 * (N : Int)) w10 (by omega)
      obtain ⟨i, hi⟩ := Int.eq_ofNat_of_zero_le hp0
      rw [hi] at PC hp1
      clear hi hp0
      refine PC.mono ?_
      clear PC
      rintro r w10' ⟨rfl, rfl⟩
      have hi8 : i / 8 < F.length := by omega
      obtain ⟨y, hy⟩ : ∃ y, y = F.getD (i / 8) 0#8 := ⟨_, rfl⟩
      have k10 := row10.cell (i / 8) hi8
      rw [show F[i / 8] = y by rw [hy]; simp [hi8]] at k10
      have f10 := row10.frozen (i / 8)
      have hg10 := row10.lt
      obtain ⟨row11, g11⟩ := row10.stored (i / 8) (y ^^^ (1#8 <<< (i % 8)))
      rw [show F.set (i / 8) (y ^^^ (1#8 <<< (i % 8))) = flipAt F i by rw [hy]; rfl, ← flip_byte] at row11
      rw [← flip_byte] at g11
      have b11 := b10.trans (below_of_only g11 (Nat.le_of_lt hgw) b10.size)
      have HY := hide hy
      clear hy g11 row10
      go_wp2_with fail
      refine (get_errno (some ⟨g, 0, none⟩) N N (flipAt F i) (fun _ => True) _ (row11.rd trivial) (by rw [flipAt_length, hfl]) (by rw [flipAt_length, hfl]; omega) (by rw [flipAt_length, hfl]; exact Nat.le_refl _)).mono ?_
      rintro r w12 ⟨k', e', s', A', n', c', z', y', rfl, hy', b12⟩
      have b12' := b11.trans (b12.mono b11.size)
      clear b12 row11 k10 f10 b11
      by_cases hz : 24 ≤ i / 8 ∧ i / 8 < 28
      · have Z1 : decide ((24 : Int) ≤ (i : Int) / 8) = true := decide_eq_true (by omega)
        have Z2 : decide ((i : Int) / 8 < 28) = true := decide_eq_true (by omega)
        rcases hy' with ⟨_, rfl⟩ | ⟨_, rfl⟩
        · go_wp2
          all_goals (go_ret; exact ⟨rfl, b12'.alloc b12'.size _⟩)
        · go_wp2
          all_goals (go_ret; exact ⟨rfl, b12'.alloc b12'.size _⟩)
      · have hno := HFLIP i (by omega) hz
        rcases hy' with ⟨hyes, _⟩ | ⟨_, rfl⟩
        · exact absurd hyes hno
        · clear hno HFLIP
          go_wp2
          all_goals (go_ret; exact ⟨rfl, b12'.alloc b12'.size _⟩)
    · clear hbig
      go_wp2_with fail
      refine (put_bad k e s (.slice A d.length c) w2 hok).mono ?_
      rintro r w3 ⟨rfl, b3⟩
      go_wp2
      go_ret
      exact ⟨rfl, b2.trans (b3.mono b2.size)⟩
end Go.Proofs.Ytdkcjmpikmnedaa
