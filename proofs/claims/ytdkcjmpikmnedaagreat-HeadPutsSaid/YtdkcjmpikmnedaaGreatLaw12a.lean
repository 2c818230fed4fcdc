/- The statements of layer 12: is a small head put and got? -/
import Derived.Test.YtdkcjmpikmnedaaGreatHeadMath
namespace Go.Proofs.YtdkcjmpikmnedaaGreat
open Go.RowKit

theorem small_any (w : World) : Calls Tryz.prog 33 #[] w fun e w' => e = .returned (.agg (headCells 64 4 32 1 8 7 1 0 1)) ∧ Below w.heap.size w w' := by
  go_enter Tryz.func33, Tryz.ntmps33
  go_wp2
  refine bodyPost_ret (v := .agg (headCells 64 4 32 1 8 7 1 0 1)) ?_ rfl ⟨rfl, (Below.refl w.heap.size w).alloc (Nat.le_refl _) _⟩
  exact results_cell1 rfl _ _ w.heap.size _ _ rfl (Blk.new w _ (headCells 64 4 32 1 8 7 1 0 1)) Tryz.underlying56 rfl head_size
theorem hput_row (h : Hd) (ok : headOk h) (w : World) : Calls Tryz.prog 30 #[.agg h.cs] w fun r w' =>
    ∃ g c, r = .returned (.tuple #[.slice (some ⟨g, 0, none⟩) 512 c, .int .i64 0]) ∧ w.heap.size ≤ g ∧ RowB w' g c h.bytes ∧ 512 ≤ c ∧ Below w.heap.size w w' := by
  refine (hput_own h.v h.s h.g h.u h.j h.nu h.pg h.rt h.sn w).mono ?_
  rintro r w' ⟨A, c, rfl, hr, hc, hb⟩
  have e : hputRes h.v h.s h.g h.u h.j h.nu h.pg h.rt h.sn = (h.bytes, 0) := hd_put_ok ok
  have hl := hd_bytes_length h
  rw [e] at hr hc ⊢
  simp only at hr hc ⊢
  obtain ⟨g, cap, hv, row, hg, hcap⟩ := hr.row (by omega)
  rw [hl] at hv hc hcap ⊢
  exact ⟨g, cap, by rw [hv], hg, row, hcap, hb⟩
theorem hput_good (h : Hd) (ok : headOk h) (w : World) : Calls Tryz.prog 30 #[.agg h.cs] w fun r w' =>
    ∃ b off c, r = .returned (.tuple #[.slice (some ⟨b, off, none⟩) 512 c, .int .i64 0]) ∧ Rd w' (fun b => w.heap.size ≤ b) (some ⟨b, off, none⟩) (bs h.bytes) ∧ 512 ≤ c ∧ Below w.heap.size w w' := by
  refine (hput_any h.v h.s h.g h.u h.j h.nu h.pg h.rt h.sn w).mono ?_
  rintro r w' ⟨A, c, rfl, hr, hc, hb⟩
  have e : hputRes h.v h.s h.g h.u h.j h.nu h.pg h.rt h.sn = (h.bytes, 0) := hd_put_ok ok
  have hl := hd_bytes_length h
  rw [e] at hr hc ⊢
  simp only at hr hc ⊢
  rw [hl] at hc ⊢
  obtain ⟨b, off, rfl, _⟩ := hr (by simp [hl])
  exact ⟨b, off, c, rfl, hr, hc, hb⟩
theorem hput_none (h : Hd) (bad : ¬ headOk h) (w : World) : Calls Tryz.prog 30 #[.agg h.cs] w fun r w' => (∃ A c, r = .returned (.tuple #[.slice A 0 c, .int .i64 2])) ∧ Below w.heap.size w w' := by
  refine (hput_any h.v h.s h.g h.u h.j h.nu h.pg h.rt h.sn w).mono ?_
  rintro r w' ⟨A, c, rfl, _, _, hb⟩
  have e : hputRes h.v h.s h.g h.u h.j h.nu h.pg h.rt h.sn = ([], 2) := hd_put_bad bad
  rw [e]
  exact ⟨⟨A, c, rfl⟩, hb⟩
theorem hget_at (A : Option Addr) (c n : Nat) (l : List B8) (P : Nat → Prop) (w : World) (hr : Rd w P A (bs l)) (hn : l.length = n) (hl : n ≤ 1000000) (hcc : n ≤ c) :
    Calls Tryz.prog 36 #[.slice A n c] w fun r w' => ∃ er : Int, r = .returned (.tuple #[.agg (hd l).cs, .int .i64 er]) ∧ Hid ((isHead l → er = 0) ∧ (¬ isHead l → er = 4)) ∧ Below w.heap.size w w' := by
  subst hn
  exact (hget_any A c l P w hr hl hcc).mono fun r w' h => head_post h
theorem hpick_at (A B : Option Addr) (c c' n n' : Nat) (l m : List B8) (P Q : Nat → Prop) (w : World) (hr : Rd w P A (bs l)) (hs : Rd w Q B (bs m)) (hn : l.length = n) (hn' : m.length = n') (hl : n ≤ 1000000) (hm : n' ≤ 1000000) (hcl : n ≤ c) (hcm : n' ≤ c') :
    Calls Tryz.prog 74 #[.slice A n c, .slice B n' c'] w fun r w' => r = .returned (.tuple #[.agg (pk l m).1.cs, .int .i64 (pk l m).2]) ∧ Below w.heap.size w w' := by
  subst hn hn'
  exact hpick_any A B c c' l m P Q w hr hs hl hm hcl hcm
theorem hd_equal (h : Hd) (w : World) : (Op.equalIn 10000 56 (.agg h.cs) (.agg h.cs)).run Tryz.prog w = .ok true w := by
  rw [head_equal, decide_eq_true (by simp)]

set_option maxRecDepth 100000 in
set_option maxHeartbeats 1600000 in
theorem awake12_any (w : World) : Calls Tryz.prog 32 #[] w fun e w' => e = .returned (.bool true) ∧ Below w.heap.size w w' := by
  have hP := fun w => hput_good hdSmall small_ok w
  have hG := fun A c P w hr => hget_at A c 512 hdSmall.bytes P w hr (hd_bytes_length _) (by omega)
  have hK := fun A B c c' P Q w hr hs => hpick_at A B c c' 512 512 hdSmall.bytes (List.replicate 512 0#8) P Q w hr hs (hd_bytes_length _) (by simp) (by omega) (by omega)
  have hN := fun w => hpick_at none none 0 0 0 0 [] [] (fun _ => True) (fun _ => True) w Rd.nil Rd.nil rfl rfl (by omega) (by omega) (by omega) (by omega)
  have hZ := fun w => hput_none hd0 hd0_bad w
  obtain ⟨y1, y2⟩ := hd_got small_ok
  rw [y2] at hG
  rw [pk_left small_ok zeros_none] at hK
  rw [pk_none (not_head (by simp)) (not_head (by simp))] at hN
  have hs5 : str [112#8, 101#8, 97#8, 116#8, 1#8] = { data := #[112, 101, 97, 116, 1] } := by decide +kernel
  have hb5 := hdSmall_0
  have hb15 := hdSmall_15
  have EE := fun w => hd_equal hdSmall w
  have GT : Tryz.prog.eqGuardType Tryz.prog.depth 56 = false := by kernel_rfl
  have hbl := hd_bytes_length hdSmall
  generalize hdSmall.bytes = L at *
  rw [show hdSmall.cs = headCells 64 4 32 1 8 7 1 0 1 from rfl] at *
  rw [show hd0.cs = headCells 0 0 0 0 0 0 0 0 0 from rfl] at *
  have HP := hide hP
  have HG := hide hG
  have HK := hide hK
  have HN := hide hN
  have HZ := hide hZ
  have HY := hide y1
  clear hP hG hK hN hZ y1 y2
  go_enter Tryz.func32, Tryz.ntmps32
  go_wp2_with (go_at_call 33; refine (small_any _).mono ?_; rintro e w1 ⟨rfl, b1⟩)
  refine (HP.out w1).mono ?_
  rintro e w2 ⟨b, off, c, rfl, r2, hc, b2⟩
  have b2' := b1.trans (b2.mono b1.size)
  have k1 : (convert 30 9 (.slice (some ⟨b, off, none⟩) 5 c)).run Tryz.prog w2 = .ok (.string { data := #[112, 101, 97, 116, 1] }) w2 := by
    have := run_str w2 (some ⟨b, off, none⟩) c (L.take 5) _ (by rw [bs_take]; exact r2.take 5)
    rw [hb5, hs5] at this
    exact this
  have k15 : w2.cell? ⟨b, off + 15, none⟩ = some (.int .u8 7) := by
    obtain ⟨b', off', hA, _, hcell⟩ := r2 (by simp [hbl])
    injection hA with hA
    injection hA with e1 e2 e3
    subst e1 e2
    have h15 : 15 < L.length := by omega
    rw [hcell 15 (by simpa using h15), bs_get]
    have : L[15] = 7#8 := by rw [List.getElem?_eq_getElem h15] at hb15; exact Option.some.inj hb15
    rw [this]
    rfl
  have i5 : 5 ≤ c := by omega
  have i5' : (5 : Int) ≤ (c : Int) := by omega
  go_wp2_with fail
  refine (HG.out (some ⟨b, off, none⟩) c _ w2 r2 hc).mono ?_
  rintro e w3 ⟨er, rfl, her, b3⟩
  obtain rfl := her.out.1 HY.out
  have r3 := r2.below b3 fun b hb _ => hb
  have b3' := b2'.trans (b3.mono b2'.size)
  have ba := (Below.refl w3.heap.size w3).alloc (Nat.le_refl _) (.cells (headCells 64 4 32 1 8 7 1 0 1) 56)
  have X4 := Blk.new w3 56 (headCells 64 4 32 1 8 7 1 0 1)
  have r4 := r3.below ba fun b hb _ => hb
  have b4 := b3'.trans (ba.mono b3'.size)
  clear k1 k15 i5 i5' her r2 r3 b2 b3 b2' b3' ba
  go_wp2_with (with_reducible refine stop_make ?_)
  generalize w3.alloc (.cells (headCells 64 4 32 1 8 7 1 0 1) 56) = w4 at *
  generalize w3.heap.size = xb at *
  unfold Stopped
  refine wpList_make_u8_full rfl _ _ rfl _ _ 512 rfl rfl rfl rfl (by omega) ?_
  intro w5 row5 g5
  have bg := below_of_none g5
  have X5 := X4.below bg X4.lt
  have r5 := r4.below bg fun b hb _ => hb
  have b5 := b4.trans (bg.mono b4.size)
  clear X4 r4 b4 g5 bg
  go_wp2_with fail
  refine (HK.out (some ⟨b, off, none⟩) (some ⟨w4.heap.size, 0, none⟩) c 512 _ (fun _ => True) w5 r5 (row5.rd trivial) hc (Nat.le_refl _)).mono ?_
  rintro e w6 ⟨rfl, b6⟩
  have X6 := X5.below b6 X5.lt
  have b6' := b5.trans (b6.mono b5.size)
  have ba := (Below.refl w6.heap.size w6).alloc (Nat.le_refl _) (.cells (headCells 64 4 32 1 8 7 1 0 1) 56)
  have X7 := X6.below ba X6.lt
  have Y7 := Blk.new w6 56 (headCells 64 4 32 1 8 7 1 0 1)
  have b7 := b6'.trans (ba.mono b6'.size)
  clear r5 row5 X5 b5 X6 b6 b6' ba
  go_wp2_with fail
  generalize w6.alloc (.cells (headCells 64 4 32 1 8 7 1 0 1) 56) = w7 at *
  generalize w6.heap.size = yb at *
  refine (HN.out w7).mono ?_
  rintro e w8 ⟨rfl, b8⟩
  have X8 := X7.below b8 X7.lt
  have Y8 := Y7.below b8 Y7.lt
  have b8' := b7.trans (b8.mono b7.size)
  have ba := (Below.refl w8.heap.size w8).alloc (Nat.le_refl _) (.cells (headCells 0 0 0 0 0 0 0 0 0) 56)
  have X9 := X8.below ba X8.lt
  have Y9 := Y8.below ba Y8.lt
  have b9 := b8'.trans (ba.mono b8'.size)
  clear X7 Y7 b7 X8 Y8 b8 b8' ba
  go_wp2_with fail
  generalize w8.alloc (.cells (headCells 0 0 0 0 0 0 0 0 0) 56) = w9 at *
  refine (HZ.out w9).mono ?_
  rintro e w10 ⟨⟨AZ, cZ, rfl⟩, b10⟩
  have X10 := X9.below b10 X9.lt
  have Y10 := Y9.below b10 Y9.lt
  have b10' := b9.trans (b10.mono b9.size)
  clear X9 Y9 b9 b10
  go_upto_region 8 with fail
  have hlx := X10.lt
  have hly := Y10.lt
  obtain ⟨T, f, ht, hf, hf'⟩ := below_fam w10.heap.size w10
  have x0 : ∀ x, (f x).cell? ⟨xb, 0, none⟩ = some (.int .i64 64) := fun x => ((hf x).cell hlx).trans (X10.cell 0)
  have x1 : ∀ x, (f x).cell? ⟨xb, 1, none⟩ = some (.int .i64 4) := fun x => ((hf x).cell hlx).trans (X10.cell 1)
  have x2 : ∀ x, (f x).cell? ⟨xb, 2, none⟩ = some (.int .i64 32) := fun x => ((hf x).cell hlx).trans (X10.cell 2)
  have x3 : ∀ x, (f x).cell? ⟨xb, 3, none⟩ = some (.int .i64 1) := fun x => ((hf x).cell hlx).trans (X10.cell 3)
  have x4 : ∀ x, (f x).cell? ⟨xb, 4, none⟩ = some (.int .i64 8) := fun x => ((hf x).cell hlx).trans (X10.cell 4)
  have x5 : ∀ x, (f x).cell? ⟨xb, 5, none⟩ = some (.int .i64 7) := fun x => ((hf x).cell hlx).trans (X10.cell 5)
  have x6 : ∀ x, (f x).cell? ⟨xb, 6, none⟩ = some (.int .i64 1) := fun x => ((hf x).cell hlx).trans (X10.cell 6)
  have x7 : ∀ x, (f x).cell? ⟨xb, 7, none⟩ = some (.int .i64 0) := fun x => ((hf x).cell hlx).trans (X10.cell 7)
  have x8 : ∀ x, (f x).cell? ⟨xb, 8, none⟩ = some (.int .i64 1) := fun x => ((hf x).cell hlx).trans (X10.cell 8)
  have y0 : ∀ x, (f x).cell? ⟨yb, 0, none⟩ = some (.int .i64 64) := fun x => ((hf x).cell hly).trans (Y10.cell 0)
  have y1 : ∀ x, (f x).cell? ⟨yb, 1, none⟩ = some (.int .i64 4) := fun x => ((hf x).cell hly).trans (Y10.cell 1)
  have y2 : ∀ x, (f x).cell? ⟨yb, 2, none⟩ = some (.int .i64 32) := fun x => ((hf x).cell hly).trans (Y10.cell 2)
  have y3 : ∀ x, (f x).cell? ⟨yb, 3, none⟩ = some (.int .i64 1) := fun x => ((hf x).cell hly).trans (Y10.cell 3)
  have y4 : ∀ x, (f x).cell? ⟨yb, 4, none⟩ = some (.int .i64 8) := fun x => ((hf x).cell hly).trans (Y10.cell 4)
  have y5 : ∀ x, (f x).cell? ⟨yb, 5, none⟩ = some (.int .i64 7) := fun x => ((hf x).cell hly).trans (Y10.cell 5)
  have y6 : ∀ x, (f x).cell? ⟨yb, 6, none⟩ = some (.int .i64 1) := fun x => ((hf x).cell hly).trans (Y10.cell 6)
  have y7 : ∀ x, (f x).cell? ⟨yb, 7, none⟩ = some (.int .i64 0) := fun x => ((hf x).cell hly).trans (Y10.cell 7)
  have y8 : ∀ x, (f x).cell? ⟨yb, 8, none⟩ = some (.int .i64 1) := fun x => ((hf x).cell hly).trans (Y10.cell 8)
  have HS : ∀ x, Calls Tryz.prog 33 #[] (f x) fun e w' => e = .returned (.agg (headCells 64 4 32 1 8 7 1 0 1)) ∧ ∃ y, w' = f y := fun x =>
    (small_any (f x)).mono fun e w' ⟨he, hb⟩ => ⟨he, hf' w' ((hf x).trans (hb.mono (hf x).size))⟩
  have hx0 := hf' w10.drew (Below.refl _ _).drew
  have HSS := hide HS
  have HB := hide (And.intro b10' hf)
  have hz := b10'.size
  clear HS X10 Y10 b10' hf hf' hlx hly HP HG HK HN HZ HY hb5 hb15 hbl hs5
  refine wp_region_fam f (by kernel_rfl) (by kernel_rfl) hx0 ?_
  repeat (refine wpQuiet_step (fun K hK => ?_); go_simp; first | (refine hK _ ?_; clear hK K) | (apply Exists.intro; refine ⟨fun _ => ?_, hK _ ?_⟩; (go_at_call 33; exact HSS.out _); clear hK K))
  refine wpQuiet_nil ?_
  rintro _ ⟨nq, rfl⟩
  go_wp2
  go_ret
  exact ⟨rfl, HB.out.1.trans ((HB.out.2 nq).mono hz)⟩
end Go.Proofs.YtdkcjmpikmnedaaGreat
