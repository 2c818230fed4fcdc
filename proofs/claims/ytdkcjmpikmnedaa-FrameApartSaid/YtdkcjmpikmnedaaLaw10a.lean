/- The walk through FrameApart. -/
import Derived.Test.YtdkcjmpikmnedaaLaw10
import Derived.Test.YtdkcjmpikmnedaaApartW
namespace Go.Proofs.Ytdkcjmpikmnedaa
open Go.RowKit
set_option linter.unusedSimpArgs false

set_option maxRecDepth 100000 in
set_option maxHeartbeats 3200000 in
theorem frameApart_any (k e s : Int) (A : Option Addr) (c : Nat) (d : List B8) (P : Nat → Prop) (w : World) (hr : Rd w P A (bs d)) (hd : d.length ≤ 140737488351232) :
    Calls Try.prog 16 #[.agg #[.int .i64 k, .int .i64 e, .int .i64 s, .slice A d.length c]] w fun r w' => r = .returned (.bool true) ∧ Below w.heap.size w w' := by
  have b0 : Below w.heap.size w (w.alloc (.cells #[.int .i64 k, .int .i64 e, .int .i64 s, .slice A d.length c] 68)) := (Below.refl _ _).alloc (Nat.le_refl _) _
  have B0 : Blk (w.alloc (.cells #[.int .i64 k, .int .i64 e, .int .i64 s, .slice A d.length c] 68)) w.heap.size 68 #[.int .i64 k, .int .i64 e, .int .i64 s, .slice A d.length c] := Blk.new _ _ _
  have r0 := (hr.imp (Q := (· < w.heap.size)) fun b hb _ => hb).below b0 fun _ _ hb => hb
  go_enter Try.func16, Try.ntmps16
  go_wp2_with fail
  generalize w.alloc (.cells #[.int .i64 k, .int .i64 e, .int .i64 s, .slice A d.length c] 68) = w1 at *
  refine (awake10_any w1).mono ?_
  rintro r w2 ⟨rfl, b1⟩
  have B2 := B0.below b1 B0.lt
  have b2 := b0.trans (b1.mono b0.size)
  have r2 := r0.below b1 fun b hb _ => hb
  clear B0 b0 r0 b1 hr
  have hw2 := B2.lt
  have c0 : w2.cell? ⟨w.heap.size, 0, none⟩ = some (.int .i64 k) := B2.cell 0
  have c1 : w2.cell? ⟨w.heap.size, 1, none⟩ = some (.int .i64 e) := B2.cell 1
  have c2 : w2.cell? ⟨w.heap.size, 2, none⟩ = some (.int .i64 s) := B2.cell 2
  have c3 : w2.cell? ⟨w.heap.size, 3, none⟩ = some (.slice A d.length c) := B2.cell 3
  by_cases hbig : 2000 < d.length
  · have D : (2000 : Int) < (d.length : Int) := by omega
    go_wp2
    go_ret
    exact ⟨rfl, b2⟩
  · have D : ¬ (2000 : Int) < (d.length : Int) := by omega
    go_wp2_with fail
    refine (copyFrame_any k e s A c d _ w2 r2 hd).mono ?_
    rintro r w3 ⟨v3, rfl, own3, b3⟩
    have b3' := b2.trans (b3.mono b2.size)
    have hv3 := own3.lt
    clear c0 c1 c2 c3 r2 B2
    obtain ⟨A3, c3, rfl, _⟩ := own3.form
    have F4 := Blk.new w3 68 #[.int .i64 k, .int .i64 e, .int .i64 s, .slice A3 d.length c3]
    have own4 := own3.alloc (.cells #[.int .i64 k, .int .i64 e, .int .i64 s, .slice A3 d.length c3] 68)
    have b4 := b3'.alloc b3'.size (.cells #[.int .i64 k, .int .i64 e, .int .i64 s, .slice A3 d.length c3] 68)
    have n3 := b3'.size
    go_wp2_with fail
    generalize w3.alloc (.cells #[.int .i64 k, .int .i64 e, .int .i64 s, .slice A3 d.length c3] 68) = w4 at *
    generalize w3.heap.size = fb at *
    clear own3 b3 b3' b2
    by_cases hok : okNums k e s
    · obtain ⟨h1, h2, h3, h4, h5, h6⟩ := hok
      obtain ⟨kn, rfl⟩ := Int.eq_ofNat_of_zero_le h1
      obtain ⟨en, rfl⟩ := Int.eq_ofNat_of_zero_le h3
      obtain ⟨sn, rfl⟩ := Int.eq_ofNat_of_zero_le h5
      have hk : kn ≤ 255 := by omega
      have he : en ≤ 1099511627776 := by omega
      have hs : sn ≤ 1099511627776 := by omega
      have hd2 : d.length ≤ 2000 := by omega
      clear h1 h2 h3 h4 h5 h6 hbig
      refine (put_at kn en sn d.length A3 c3 d (fun _ => True) w4 rfl hk he hs (by omega) (own4.rd fun _ _ _ _ => trivial)).mono ?_
      rintro r w5 ⟨g, hg, rfl, row5, b5⟩
      have b5' := b4.trans (b5.mono b4.size)
      have F5 := F4.below b5 F4.lt
      have own5 := own4.below b5
      have hfl := frameBytes_length kn en sn d
      have hN1 : 512 * sectors d.length ≤ d.length + 543 := by unfold sectors; omega
      have HG := fun w P (hr : Rd w P (some ⟨g, 0, none⟩) (bs (frameBytes kn en sn d ++ []))) => get_put kn en sn d.length (512 * sectors d.length) (some ⟨g, 0, none⟩) (512 * sectors d.length) d [] P w hk he hs rfl (by omega) (by rw [List.append_nil]; exact hfl) hr (by omega) (Nat.le_refl _)
      rw [List.append_nil] at HG
      have hfb := F4.lt
      have b4s := b5.size
      clear F4 own4 b5 b4
      generalize frameBytes kn en sn d = F at *
      generalize 512 * sectors d.length = N at *
      go_wp2_with fail
      refine (HG w5 (fun _ => True) (row5.rd trivial)).mono ?_
      rintro r w6 ⟨A6, c6, rfl, _, own6, b6⟩
      have b6' := b5'.trans (b6.mono b5'.size)
      have F6 := F5.below b6 F5.lt
      have own5' := own5.below b6
      have row6 := row5.below b6 row5.lt
      have hg5 := row5.lt
      have hv6 := own6.lt
      have n6 := b6.size
      clear HG F5 own5 row5 b6
      have G7 := Blk.new w6 68 #[.int .i64 kn, .int .i64 en, .int .i64 sn, .slice A6 d.length c6]
      have F7 := F6.alloc (.cells #[.int .i64 kn, .int .i64 en, .int .i64 sn, .slice A6 d.length c6] 68)
      have own7 := own5'.alloc (.cells #[.int .i64 kn, .int .i64 en, .int .i64 sn, .slice A6 d.length c6] 68)
      have row7 := row6.alloc (.cells #[.int .i64 kn, .int .i64 en, .int .i64 sn, .slice A6 d.length c6] 68)
      have own67 := own6.alloc (.cells #[.int .i64 kn, .int .i64 en, .int .i64 sn, .slice A6 d.length c6] 68)
      have b7 := b6'.alloc b6'.size (.cells #[.int .i64 kn, .int .i64 en, .int .i64 sn, .slice A6 d.length c6] 68)
      have f3 : (w6.alloc (.cells #[.int .i64 kn, .int .i64 en, .int .i64 sn, .slice A6 d.length c6] 68)).cell? ⟨fb, 3, none⟩ = some (.slice A3 d.length c3) := F7.cell 3
      have g3 : (w6.alloc (.cells #[.int .i64 kn, .int .i64 en, .int .i64 sn, .slice A6 d.length c6] 68)).cell? ⟨w6.heap.size, 3, none⟩ = some (.slice A6 d.length c6) := G7.cell 3
      have q7 : (w6.alloc (.cells #[.int .i64 kn, .int .i64 en, .int .i64 sn, .slice A6 d.length c6] 68)).heap.size = w6.heap.size + 1 := by simp
      go_wp2_with fail
      generalize w6.alloc (.cells #[.int .i64 kn, .int .i64 en, .int .i64 sn, .slice A6 d.length c6] 68) = w7 at *
      have T8 := Blk.new w7 23 #[.slice A3 d.length c3, .slice (some ⟨g, 0, none⟩) N N, .slice A6 d.length c6]
      rw [q7] at T8
      have own8 := own7.alloc (.cells #[.slice A3 d.length c3, .slice (some ⟨g, 0, none⟩) N N, .slice A6 d.length c6] 23)
      have row8 := row7.alloc (.cells #[.slice A3 d.length c3, .slice (some ⟨g, 0, none⟩) N N, .slice A6 d.length c6] 23)
      have own68 := own67.alloc (.cells #[.slice A3 d.length c3, .slice (some ⟨g, 0, none⟩) N N, .slice A6 d.length c6] 23)
      have b8 := b7.alloc b7.size (.cells #[.slice A3 d.length c3, .slice (some ⟨g, 0, none⟩) N N, .slice A6 d.length c6] 23)
      generalize w7.alloc (.cells #[.slice A3 d.length c3, .slice (some ⟨g, 0, none⟩) N N, .slice A6 d.length c6] 23) = w8 at *
      have hF : F.length ≤ 3000 := by omega
      have v0 : ∀ b, (Value.slice A3 d.length c3).ownBlock = some b → w.heap.size ≤ b ∧ b < fb := fun b hb => by have := hv3 b hb; omega
      have v1 : ∀ b, (Value.slice (some ⟨g, 0, none⟩) N N).ownBlock = some b → b = g := fun b hb => by injection hb with hb; exact hb.symm
      have v2 : ∀ b, (Value.slice A6 d.length c6).ownBlock = some b → w5.heap.size ≤ b := fun b hb => (hv6 b hb).1
      have hg8 := row8.own (base := 0) (Nat.zero_le _)
      rw [hfl] at hg8
      have n4 := b4s
      refine (apartBytes_any (w6.heap.size + 1) 3 3 (fun k => if k = 0 then .slice A3 d.length c3 else if k = 1 then .slice (some ⟨g, 0, none⟩) N N else .slice A6 d.length c6) (fun k => if k = 1 then F else d) w8 ?_ ?_ (by omega) (by omega) ?_ ?_).mono ?_
      · intro k hk
        match k, hk with
        | 0, _ => exact T8.cell 0
        | 1, _ => exact T8.cell 1
        | 2, _ => exact T8.cell 2
      · intro j k b hj hk h1 h2
        match j, k, hj, hk with
        | 0, 0, _, _ => rfl
        | 1, 1, _, _ => rfl
        | 2, 2, _, _ => rfl
        | 0, 1, _, _ => have := v0 b h1; have := v1 b h2; omega
        | 1, 0, _, _ => have := v0 b h2; have := v1 b h1; omega
        | 0, 2, _, _ => have := v0 b h1; have := v2 b h2; omega
        | 2, 0, _, _ => have := v0 b h2; have := v2 b h1; omega
        | 1, 2, _, _ => have := v1 b h1; have := v2 b h2; omega
        | 2, 1, _, _ => have := v1 b h2; have := v2 b h1; omega
      · intro k hk
        match k, hk with
        | 0, _ => exact own8.mono (Nat.zero_le _)
        | 1, _ => exact hg8
        | 2, _ => exact own68.mono (Nat.zero_le _)
      · intro k hk
        match k, hk with
        | 0, _ => show d.length ≤ 100000; omega
        | 1, _ => show F.length ≤ 100000; omega
        | 2, _ => show d.length ≤ 100000; omega
      rintro r w9 ⟨rfl, c9⟩
      have b9 := b8.trans (c9.below (B := w.heap.size) b8.size fun b hb ⟨k, hk, h1⟩ => by
        match k, hk with
        | 0, _ => have := v0 b h1; omega
        | 1, _ => have := v1 b h1; omega
        | 2, _ => have := v2 b h1; omega)
      go_wp2
      go_ret
      exact ⟨rfl, b9⟩
    · refine (put_bad k e s (.slice A3 d.length c3) w4 hok).mono ?_
      rintro r w5 ⟨rfl, b5⟩
      go_wp2
      go_ret
      exact ⟨rfl, b4.trans (b5.mono b4.size)⟩
end Go.Proofs.Ytdkcjmpikmnedaa
