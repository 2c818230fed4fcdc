/- HeadBack, walked. -/
import Derived.Test.YtdkcjmpikmnedaaLaw12a
import Derived.Test.YtdkcjmpikmnedaaLaw10b
import Derived.Deep.CutRange
namespace Go.Proofs.Ytdkcjmpikmnedaa
open Go.RowKit

theorem headOk_iff (a : Hd) : headOk a ↔ geoOk a.v a.s a.g a.u a.j ∧ 0 ≤ a.nu ∧ a.nu ≤ 1099511627776 ∧ 1 ≤ a.pg ∧ a.pg ≤ (if geoOk a.v a.s a.g a.u a.j then pagesOf a.v a.s a.g else 0) ∧ 0 ≤ a.rt ∧ a.rt < a.pg ∧ 1 ≤ a.sn ∧ a.sn ≤ 1073741824 := by
  constructor
  · rintro ⟨⟨⟨h1, h2⟩, ⟨h3, h4⟩, h5, h6⟩, h7, h8⟩
    refine ⟨?_, h7, h8, h1, h2, h3, by omega, h5, h6⟩
    by_cases hg : geoOk a.v a.s a.g a.u a.j
    · exact hg
    · rw [if_neg hg] at h2; omega
  · rintro ⟨_, h7, h8, h1, h2, h3, h4, h5, h6⟩
    exact ⟨⟨⟨h1, h2⟩, ⟨h3, by omega⟩, h5, h6⟩, h7, h8⟩

set_option maxRecDepth 100000 in
set_option maxHeartbeats 8000000 in
theorem headBack_any (a : Hd) (A : Option Addr) (c : Nat) (l : List B8) (P : Nat → Prop) (bit : Int) (w : World) (hr : Rd w P A (bs l)) (hl : l.length ≤ 140737488351232) (hcc : l.length ≤ c) :
    Calls Try.prog 9 #[.agg a.cs, .slice A l.length c, .int .i64 bit] w fun e w' => e = .returned (.bool true) ∧ Below w.heap.size w w' := by
  have b1 := (Below.refl w.heap.size w).alloc (Nat.le_refl _) (.cells a.cs 55)
  have A1 := Blk.new w 55 a.cs
  have r1 := (hr.imp (Q := (· < w.heap.size)) fun b hb _ => hb).below b1 fun b hb h => h
  have EA := fun w => hd_equal a w
  have EZ := fun w => hd_equal hd0 w
  rw [show hd0.cs = headCells 0 0 0 0 0 0 0 0 0 from rfl] at EZ
  have GT : Try.prog.eqGuardType Try.prog.depth 55 = false := by kernel_rfl
  have HIF := headOk_iff a
  have PC := fun w => Pages_any a.v a.s a.g a.u a.j w
  have RC := fun w => right_any a.v a.s a.g a.u a.j w
  clear hr
  go_enter Try.func9, Try.ntmps9
  go_wp2_with fail
  generalize w.alloc (.cells a.cs 55) = w1 at *
  refine (awake12_any w1).mono ?_
  rintro e w2 ⟨rfl, b2⟩
  have A2 := A1.below b2 A1.lt
  have r2 := r1.below b2 fun b hb h => Nat.lt_trans h A1.lt
  have b2' := b1.trans (b2.mono b1.size)
  clear A1 r1 b1 b2
  by_cases hbig : 40000 < l.length
  · have D : decide (40000 < (l.length : Int)) = true := decide_eq_true (by omega)
    go_wp2
    go_ret
    exact ⟨rfl, b2'⟩
  have D : decide (40000 < (l.length : Int)) = false := decide_eq_false (by omega)
  have hl4 : l.length ≤ 40000 := by omega
  clear hbig hl
  have a0 : w2.cell? ⟨w.heap.size, 0, none⟩ = some (.int .i64 a.v) := A2.cell 0
  have a1 : w2.cell? ⟨w.heap.size, 1, none⟩ = some (.int .i64 a.s) := A2.cell 1
  have a2 : w2.cell? ⟨w.heap.size, 2, none⟩ = some (.int .i64 a.g) := A2.cell 2
  have a3 : w2.cell? ⟨w.heap.size, 3, none⟩ = some (.int .i64 a.u) := A2.cell 3
  have a4 : w2.cell? ⟨w.heap.size, 4, none⟩ = some (.int .i64 a.j) := A2.cell 4
  have a5 : w2.cell? ⟨w.heap.size, 5, none⟩ = some (.int .i64 a.nu) := A2.cell 5
  have a6 : w2.cell? ⟨w.heap.size, 6, none⟩ = some (.int .i64 a.pg) := A2.cell 6
  have a7 : w2.cell? ⟨w.heap.size, 7, none⟩ = some (.int .i64 a.rt) := A2.cell 7
  have a8 : w2.cell? ⟨w.heap.size, 8, none⟩ = some (.int .i64 a.sn) := A2.cell 8
  go_wp2_with fail
  have HQ : Calls Try.prog 33 #[.agg a.cs] w2 fun r w' => ∃ (B : Option Addr) (n k : Nat) (er : Int), r = .returned (.tuple #[.slice B n k, .int .i64 er]) ∧ Hid ((headOk a → ∃ g, B = some ⟨g, 0, none⟩ ∧ er = 0 ∧ n = 512 ∧ 512 ≤ k ∧ w2.heap.size ≤ g ∧ RowB w' g k a.bytes) ∧ (¬ headOk a → er = 2)) ∧ Below w2.heap.size w2 w' := by
    by_cases h : headOk a
    · refine (hput_row a h w2).mono ?_
      rintro r w' ⟨g, k, rfl, hg, hr, hk, hb⟩
      exact ⟨_, _, _, _, rfl, hide ⟨fun _ => ⟨g, rfl, rfl, rfl, hk, hg, hr⟩, fun n => absurd h n⟩, hb⟩
    · refine (hput_none a h w2).mono ?_
      rintro r w' ⟨⟨B, k, rfl⟩, hb⟩
      exact ⟨_, _, _, _, rfl, hide ⟨fun n => absurd n h, fun _ => rfl⟩, hb⟩
  refine HQ.mono ?_
  clear HQ
  rintro e w3 ⟨XB, xn, xk, er, rfl, her, b3⟩
  have A3 := A2.below b3 A2.lt
  have r3 := r2.below b3 fun b hb h => Nat.lt_trans h A2.lt
  have b3' := b2'.trans (b3.mono b2'.size)
  have hw2 := A2.lt
  clear A2 r2 b2' b3 a0 a1 a2 a3 a4 a5 a6 a7 a8
  have hlt := A3.lt
  go_upto_region 6 with fail
  go_cut [9] from 28 to 75 (fun s9 wx => s9 = .bool (decide (headOk a)) ∧ Below w3.heap.size w3 wx)
  case first =>
    obtain ⟨T, f, ht, hf, hf'⟩ := below_fam w3.heap.size w3
    have C0 : ∀ x, (f x).cell? ⟨w.heap.size, 0, none⟩ = some (.int .i64 a.v) := fun x => ((hf x).cell hlt).trans (A3.cell 0)
    have C1 : ∀ x, (f x).cell? ⟨w.heap.size, 1, none⟩ = some (.int .i64 a.s) := fun x => ((hf x).cell hlt).trans (A3.cell 1)
    have C2 : ∀ x, (f x).cell? ⟨w.heap.size, 2, none⟩ = some (.int .i64 a.g) := fun x => ((hf x).cell hlt).trans (A3.cell 2)
    have C3 : ∀ x, (f x).cell? ⟨w.heap.size, 3, none⟩ = some (.int .i64 a.u) := fun x => ((hf x).cell hlt).trans (A3.cell 3)
    have C4 : ∀ x, (f x).cell? ⟨w.heap.size, 4, none⟩ = some (.int .i64 a.j) := fun x => ((hf x).cell hlt).trans (A3.cell 4)
    have C5 : ∀ x, (f x).cell? ⟨w.heap.size, 5, none⟩ = some (.int .i64 a.nu) := fun x => ((hf x).cell hlt).trans (A3.cell 5)
    have C6 : ∀ x, (f x).cell? ⟨w.heap.size, 6, none⟩ = some (.int .i64 a.pg) := fun x => ((hf x).cell hlt).trans (A3.cell 6)
    have C7 : ∀ x, (f x).cell? ⟨w.heap.size, 7, none⟩ = some (.int .i64 a.rt) := fun x => ((hf x).cell hlt).trans (A3.cell 7)
    have C8 : ∀ x, (f x).cell? ⟨w.heap.size, 8, none⟩ = some (.int .i64 a.sn) := fun x => ((hf x).cell hlt).trans (A3.cell 8)
    have HP : ∀ x, Calls Try.prog 35 #[.agg #[.int .i64 a.v, .int .i64 a.s, .int .i64 a.g, .int .i64 a.u, .int .i64 a.j]] (f x) fun e w' => e = .returned (.int .i64 (if geoOk a.v a.s a.g a.u a.j then pagesOf a.v a.s a.g else 0)) ∧ ∃ y, w' = f y := fun x =>
      (PC (f x)).mono fun e w' ⟨he, hb⟩ => ⟨he, hf' w' ((hf x).trans (hb.mono (hf x).size))⟩
    have HR : ∀ x, Calls Try.prog 34 #[.agg #[.int .i64 a.v, .int .i64 a.s, .int .i64 a.g, .int .i64 a.u, .int .i64 a.j]] (f x) fun e w' => e = .returned (.bool (decide (geoOk a.v a.s a.g a.u a.j))) ∧ ∃ y, w' = f y := fun x =>
      (RC (f x)).mono fun e w' ⟨he, hb⟩ => ⟨he, hf' w' ((hf x).trans (hb.mono (hf x).size))⟩
    have hx0 := hf' w3.drew (Below.refl _ _).drew
    clear A3 r3 b3' hf' PC RC
    generalize (if geoOk a.v a.s a.g a.u a.j then pagesOf a.v a.s a.g else 0) = PG at *
    have HPP := hide HP
    have HF := hide hf
    clear hf HP
    have HIFF := hide HIF
    clear HIF
    refine wp_region_fam f (by kernel_rfl) (by kernel_rfl) hx0 ?_
    iterate 2 (refine wpQuiet_step (fun K hK => ?_); go_simp; first | (refine hK _ ?_; clear hK K) | (apply Exists.intro; refine ⟨fun _ => ?_, hK _ ?_⟩; (first | (go_at_call 35; exact HPP.out _)); clear hK K))
    by_cases h0 : geoOk a.v a.s a.g a.u a.j
    · rw [decide_eq_true h0] at HR
      have HRR := hide HR
      clear HR
      iterate 4 (refine wpQuiet_step (fun K hK => ?_); go_simp; first | (refine hK _ ?_; clear hK K) | (apply Exists.intro; refine ⟨fun _ => ?_, hK _ ?_⟩; (first | (go_at_call 34; exact HRR.out _) | (go_at_call 35; exact HPP.out _)); clear hK K))
      by_cases h1 : 0 ≤ a.nu
      · have D1 := decide_eq_true h1
        iterate 5 (refine wpQuiet_step (fun K hK => ?_); go_simp; first | (refine hK _ ?_; clear hK K) | (apply Exists.intro; refine ⟨fun _ => ?_, hK _ ?_⟩; (first | (go_at_call 34; exact HRR.out _) | (go_at_call 35; exact HPP.out _)); clear hK K))
        by_cases h2 : a.nu ≤ 1099511627776
        · have D2 := decide_eq_true h2
          iterate 5 (refine wpQuiet_step (fun K hK => ?_); go_simp; first | (refine hK _ ?_; clear hK K) | (apply Exists.intro; refine ⟨fun _ => ?_, hK _ ?_⟩; (first | (go_at_call 34; exact HRR.out _) | (go_at_call 35; exact HPP.out _)); clear hK K))
          by_cases h3 : 1 ≤ a.pg
          · have D3 := decide_eq_true h3
            iterate 8 (refine wpQuiet_step (fun K hK => ?_); go_simp; first | (refine hK _ ?_; clear hK K) | (apply Exists.intro; refine ⟨fun _ => ?_, hK _ ?_⟩; (first | (go_at_call 34; exact HRR.out _) | (go_at_call 35; exact HPP.out _)); clear hK K))
            by_cases h4 : a.pg ≤ PG
            · have D4 := decide_eq_true h4
              iterate 5 (refine wpQuiet_step (fun K hK => ?_); go_simp; first | (refine hK _ ?_; clear hK K) | (apply Exists.intro; refine ⟨fun _ => ?_, hK _ ?_⟩; (first | (go_at_call 34; exact HRR.out _) | (go_at_call 35; exact HPP.out _)); clear hK K))
              by_cases h5 : 0 ≤ a.rt
              · have D5 := decide_eq_true h5
                iterate 7 (refine wpQuiet_step (fun K hK => ?_); go_simp; first | (refine hK _ ?_; clear hK K) | (apply Exists.intro; refine ⟨fun _ => ?_, hK _ ?_⟩; (first | (go_at_call 34; exact HRR.out _) | (go_at_call 35; exact HPP.out _)); clear hK K))
                by_cases h6 : a.rt < a.pg
                · have D6 := decide_eq_true h6
                  iterate 5 (refine wpQuiet_step (fun K hK => ?_); go_simp; first | (refine hK _ ?_; clear hK K) | (apply Exists.intro; refine ⟨fun _ => ?_, hK _ ?_⟩; (first | (go_at_call 34; exact HRR.out _) | (go_at_call 35; exact HPP.out _)); clear hK K))
                  by_cases h7 : 1 ≤ a.sn
                  · have D7 := decide_eq_true h7
                    iterate 5 (refine wpQuiet_step (fun K hK => ?_); go_simp; first | (refine hK _ ?_; clear hK K) | (apply Exists.intro; refine ⟨fun _ => ?_, hK _ ?_⟩; (first | (go_at_call 34; exact HRR.out _) | (go_at_call 35; exact HPP.out _)); clear hK K))
                    by_cases h8 : a.sn ≤ 1073741824
                    · have D8 := decide_eq_true h8
                      have HT := hide (show decide (headOk a) = true from decide_eq_true (HIFF.out.2 ⟨h0, h1, h2, h3, h4, h5, h6, h7, h8⟩))
                      clear h0 h1 h2 h3 h4 h5 h6 h7 h8
                      iterate 3 (refine wpQuiet_step (fun K hK => ?_); go_simp; first | (refine hK _ ?_; clear hK K) | (apply Exists.intro; refine ⟨fun _ => ?_, hK _ ?_⟩; (first | (go_at_call 34; exact HRR.out _) | (go_at_call 35; exact HPP.out _)); clear hK K))
                      refine wpQuiet_nil ?_
                      rintro _ ⟨nq, rfl⟩
                      go_wp2_with fail
                      go_meet
                      exact ⟨by rw [HT.out], HF.out nq⟩
                    · have D8 := decide_eq_false h8
                      have HT := hide (show decide (headOk a) = false from decide_eq_false fun k => h8 (by have h := HIFF.out.1 k; exact h.2.2.2.2.2.2.2.2))
                      clear h0 h1 h2 h3 h4 h5 h6 h7 h8
                      iterate 3 (refine wpQuiet_step (fun K hK => ?_); go_simp; first | (refine hK _ ?_; clear hK K) | (apply Exists.intro; refine ⟨fun _ => ?_, hK _ ?_⟩; (first | (go_at_call 34; exact HRR.out _) | (go_at_call 35; exact HPP.out _)); clear hK K))
                      refine wpQuiet_nil ?_
                      rintro _ ⟨nq, rfl⟩
                      go_wp2_with fail
                      go_meet
                      exact ⟨by rw [HT.out], HF.out nq⟩
                  · have D7 := decide_eq_false h7
                    have HT := hide (show decide (headOk a) = false from decide_eq_false fun k => h7 (by have h := HIFF.out.1 k; exact h.2.2.2.2.2.2.2.1))
                    clear h0 h1 h2 h3 h4 h5 h6 h7
                    iterate 8 (refine wpQuiet_step (fun K hK => ?_); go_simp; first | (refine hK _ ?_; clear hK K) | (apply Exists.intro; refine ⟨fun _ => ?_, hK _ ?_⟩; (first | (go_at_call 34; exact HRR.out _) | (go_at_call 35; exact HPP.out _)); clear hK K))
                    refine wpQuiet_nil ?_
                    rintro _ ⟨nq, rfl⟩
                    go_wp2_with fail
                    go_meet
                    exact ⟨by rw [HT.out], HF.out nq⟩
                · have D6 := decide_eq_false h6
                  have HT := hide (show decide (headOk a) = false from decide_eq_false fun k => h6 (by have h := HIFF.out.1 k; exact h.2.2.2.2.2.2.1))
                  clear h0 h1 h2 h3 h4 h5 h6
                  iterate 13 (refine wpQuiet_step (fun K hK => ?_); go_simp; first | (refine hK _ ?_; clear hK K) | (apply Exists.intro; refine ⟨fun _ => ?_, hK _ ?_⟩; (first | (go_at_call 34; exact HRR.out _) | (go_at_call 35; exact HPP.out _)); clear hK K))
                  refine wpQuiet_nil ?_
                  rintro _ ⟨nq, rfl⟩
                  go_wp2_with fail
                  go_meet
                  exact ⟨by rw [HT.out], HF.out nq⟩
              · have D5 := decide_eq_false h5
                have HT := hide (show decide (headOk a) = false from decide_eq_false fun k => h5 (by have h := HIFF.out.1 k; exact h.2.2.2.2.2.1))
                clear h0 h1 h2 h3 h4 h5
                iterate 20 (refine wpQuiet_step (fun K hK => ?_); go_simp; first | (refine hK _ ?_; clear hK K) | (apply Exists.intro; refine ⟨fun _ => ?_, hK _ ?_⟩; (first | (go_at_call 34; exact HRR.out _) | (go_at_call 35; exact HPP.out _)); clear hK K))
                refine wpQuiet_nil ?_
                rintro _ ⟨nq, rfl⟩
                go_wp2_with fail
                go_meet
                exact ⟨by rw [HT.out], HF.out nq⟩
            · have D4 := decide_eq_false h4
              have HT := hide (show decide (headOk a) = false from decide_eq_false fun k => h4 (by have h := HIFF.out.1 k; exact h.2.2.2.2.1))
              clear h0 h1 h2 h3 h4
              iterate 25 (refine wpQuiet_step (fun K hK => ?_); go_simp; first | (refine hK _ ?_; clear hK K) | (apply Exists.intro; refine ⟨fun _ => ?_, hK _ ?_⟩; (first | (go_at_call 34; exact HRR.out _) | (go_at_call 35; exact HPP.out _)); clear hK K))
              refine wpQuiet_nil ?_
              rintro _ ⟨nq, rfl⟩
              go_wp2_with fail
              go_meet
              exact ⟨by rw [HT.out], HF.out nq⟩
          · have D3 := decide_eq_false h3
            have HT := hide (show decide (headOk a) = false from decide_eq_false fun k => h3 (by have h := HIFF.out.1 k; exact h.2.2.2.1))
            clear h0 h1 h2 h3
            iterate 33 (refine wpQuiet_step (fun K hK => ?_); go_simp; first | (refine hK _ ?_; clear hK K) | (apply Exists.intro; refine ⟨fun _ => ?_, hK _ ?_⟩; (first | (go_at_call 34; exact HRR.out _) | (go_at_call 35; exact HPP.out _)); clear hK K))
            refine wpQuiet_nil ?_
            rintro _ ⟨nq, rfl⟩
            go_wp2_with fail
            go_meet
            exact ⟨by rw [HT.out], HF.out nq⟩
        · have D2 := decide_eq_false h2
          have HT := hide (show decide (headOk a) = false from decide_eq_false fun k => h2 (by have h := HIFF.out.1 k; exact h.2.2.1))
          clear h0 h1 h2
          iterate 38 (refine wpQuiet_step (fun K hK => ?_); go_simp; first | (refine hK _ ?_; clear hK K) | (apply Exists.intro; refine ⟨fun _ => ?_, hK _ ?_⟩; (first | (go_at_call 34; exact HRR.out _) | (go_at_call 35; exact HPP.out _)); clear hK K))
          refine wpQuiet_nil ?_
          rintro _ ⟨nq, rfl⟩
          go_wp2_with fail
          go_meet
          exact ⟨by rw [HT.out], HF.out nq⟩
      · have D1 := decide_eq_false h1
        have HT := hide (show decide (headOk a) = false from decide_eq_false fun k => h1 (by have h := HIFF.out.1 k; exact h.2.1))
        clear h0 h1
        iterate 43 (refine wpQuiet_step (fun K hK => ?_); go_simp; first | (refine hK _ ?_; clear hK K) | (apply Exists.intro; refine ⟨fun _ => ?_, hK _ ?_⟩; (first | (go_at_call 34; exact HRR.out _) | (go_at_call 35; exact HPP.out _)); clear hK K))
        refine wpQuiet_nil ?_
        rintro _ ⟨nq, rfl⟩
        go_wp2_with fail
        go_meet
        exact ⟨by rw [HT.out], HF.out nq⟩
    · rw [decide_eq_false h0] at HR
      have HRR := hide HR
      clear HR
      have HT := hide (show decide (headOk a) = false from decide_eq_false fun k => h0 (by have h := HIFF.out.1 k; exact h.1))
      clear h0
      iterate 47 (refine wpQuiet_step (fun K hK => ?_); go_simp; first | (refine hK _ ?_; clear hK K) | (apply Exists.intro; refine ⟨fun _ => ?_, hK _ ?_⟩; (first | (go_at_call 34; exact HRR.out _) | (go_at_call 35; exact HPP.out _)); clear hK K))
      refine wpQuiet_nil ?_
      rintro _ ⟨nq, rfl⟩
      go_wp2_with fail
      go_meet
      exact ⟨by rw [HT.out], HF.out nq⟩
  case rest =>
    obtain ⟨rfl, bq⟩ := hcut
    have A4 := A3.below bq A3.lt
    have r4 := r3.below bq fun b hb h => Nat.lt_trans h A3.lt
    have b4 := b3'.trans (bq.mono b3'.size)
    have hw3 := b3'.size
    clear PC RC HIF A3 r3 b3'
    by_cases hok : headOk a
    · obtain ⟨g, rfl, rfl, rfl, hk, hg, row3⟩ := her.out.1 hok
      have row4 := row3.below bq row3.lt
      obtain ⟨y1, y2⟩ := hd_got hok
      have hbl := hd_bytes_length a
      have HFL := hide (fun p hp => hd_flip hok p hp)
      have HG := hget_at (some ⟨g, 0, none⟩) xk 512 a.bytes _ wc (row4.rd (P := fun _ => True) trivial) hbl (by omega) hk
      rw [y2] at HG
      rw [decide_eq_true hok]
      have HY := hide y1
      generalize a.bytes = F at *
      clear her row3 hok y1 y2 bq
      go_wp2_with fail
      refine HG.mono ?_
      clear HG
      rintro e w5 ⟨e5, rfl, h5, b5⟩
      obtain rfl := h5.out.1 HY.out
      have A5 := A4.below b5 A4.lt
      have r5 := r4.below b5 fun b hb h => Nat.lt_trans h A4.lt
      have row5 := row4.below b5 row4.lt
      have b5' := b4.trans (b5.mono b4.size)
      have hlt5 := A5.lt
      have ba := (Below.refl w5.heap.size w5).alloc (Nat.le_refl _) (.cells a.cs 55)
      have r6 := r5.below ba fun b hb h => Nat.lt_trans h hlt5
      have row6 := row5.below ba row5.lt
      have A6 := A5.below ba A5.lt
      have b6 := b5'.trans (ba.mono b5'.size)
      have q0 : w5.cell? ⟨w.heap.size, 0, none⟩ = some (.int .i64 a.v) := A5.cell 0
      have q1 : w5.cell? ⟨w.heap.size, 1, none⟩ = some (.int .i64 a.s) := A5.cell 1
      have q2 : w5.cell? ⟨w.heap.size, 2, none⟩ = some (.int .i64 a.g) := A5.cell 2
      have q3 : w5.cell? ⟨w.heap.size, 3, none⟩ = some (.int .i64 a.u) := A5.cell 3
      have q4 : w5.cell? ⟨w.heap.size, 4, none⟩ = some (.int .i64 a.j) := A5.cell 4
      have q5 : w5.cell? ⟨w.heap.size, 5, none⟩ = some (.int .i64 a.nu) := A5.cell 5
      have q6 : w5.cell? ⟨w.heap.size, 6, none⟩ = some (.int .i64 a.pg) := A5.cell 6
      have q7 : w5.cell? ⟨w.heap.size, 7, none⟩ = some (.int .i64 a.rt) := A5.cell 7
      have q8 : w5.cell? ⟨w.heap.size, 8, none⟩ = some (.int .i64 a.sn) := A5.cell 8
      clear h5 HY A4 r4 b4 row4 b5 r5 row5 b5' ba
      go_wp2_with fail
      clear q0 q1 q2 q3 q4 q5 q6 q7 q8 A5
      generalize w5.alloc (.cells a.cs 55) = w6 at *
      obtain ⟨hp0, hp1⟩ := pick_range bit 4096 (by omega)
      have PB := pick_any bit 4096 w6 (by omega)
      obtain ⟨p, hp⟩ := Int.eq_ofNat_of_zero_le hp0
      rw [hp] at PB hp1
      clear hp hp0
      refine PB.mono ?_
      clear PB
      rintro r w6' ⟨rfl, rfl⟩
      have hp8 : p / 8 < F.length := by omega
      have hp9 : p / 8 < 512 := by omega
      obtain ⟨y, hy⟩ : ∃ y, y = F.getD (p / 8) 0#8 := ⟨_, rfl⟩
      have k6 := row6.cell (p / 8) hp8
      rw [show F[p / 8] = y by rw [hy]; simp [hp8]] at k6
      have f6 := row6.frozen (p / 8)
      obtain ⟨row7, g7⟩ := row6.stored (p / 8) (y ^^^ (1#8 <<< (p % 8)))
      rw [show F.set (p / 8) (y ^^^ (1#8 <<< (p % 8))) = flipAt F p by rw [hy]; rfl, ← flip_byte] at row7
      rw [← flip_byte] at g7
      have hge : w.heap.size < g := Nat.lt_of_lt_of_le hw2 hg
      have b7 := b6.trans (below_of_only g7 (Nat.le_of_lt hge) b6.size)
      have r7 := r6.only g7 (fun b hb e => by injection e with e; omega)
      have A7 := A6.grown g7 (by simp; omega)
      have hnh := HFL.out p (by omega)
      have hfl : (flipAt F p).length = 512 := by rw [flipAt_length, hbl]
      clear hy g7 row6 r6 b6 A6
      generalize flipAt F p = F7 at *
      go_wp2_with fail
      generalize w6.setCell ⟨g, p / 8, none⟩ (.int .u8 (bits .xor .u8 (y.toNat : Int) (2 ^ (p % 8) % 256))) = w7 at *
      refine (hget_at (some ⟨g, 0, none⟩) xk 512 F7 _ w7 (row7.rd (P := fun _ => True) trivial) hfl (by omega) hk).mono ?_
      rintro e w8 ⟨e8, rfl, h8, b8⟩
      obtain rfl := h8.out.2 hnh
      have r8 := r7.below b8 fun b hb h => Nat.lt_trans h A7.lt
      have b8' := b7.trans (b8.mono b7.size)
      generalize hd F7 = z8 at *
      have ba := (Below.refl w8.heap.size w8).alloc (Nat.le_refl _) (.cells z8.cs 55)
      have r9 := r8.below ba fun b hb h => Nat.lt_of_lt_of_le h b8'.size
      have b9 := b8'.trans (ba.mono b8'.size)
      clear k6 f6 row7 b7 r7 A7 r8 b8 b8' ba h8 hnh hfl HFL
      have hz9 : w.heap.size ≤ (w8.alloc (.cells z8.cs 55)).heap.size := b9.size
      go_wp2_with fail
      generalize w8.alloc (.cells z8.cs 55) = w10 at *
      refine (hget_at A c l.length l _ w10 r9 rfl (by omega) hcc).mono ?_
      rintro e w20 ⟨e20, rfl, h20, b20⟩
      have r20 := r9.below b20 fun b hb h => Nat.lt_of_lt_of_le h hz9
      have b20' := b9.trans (b20.mono b9.size)
      clear r9 b9 b20
      by_cases hy : isHead l
      · obtain rfl := h20.out.1 hy
        have hput := hd_back hy
        have ba := (Below.refl w20.heap.size w20).alloc (Nat.le_refl _) (.cells (hd l).cs 55)
        have r21 := r20.below ba fun b hb h => Nat.lt_of_lt_of_le h b20'.size
        have b21 := b20'.trans (ba.mono b20'.size)
        generalize hd l = y at *
        go_wp2_with fail
        generalize w20.alloc (.cells y.cs 55) = w21 at *
        refine (hput_any y.v y.s y.g y.u y.j y.nu y.pg y.rt y.sn w21).mono ?_
        rintro e w22 ⟨A22, c22, rfl, r22, hc22, b22⟩
        have r23 := r21.below b22 fun b hb h => Nat.lt_of_lt_of_le h b21.size
        have b23 := b21.trans (b22.mono b21.size)
        rw [show hputRes y.v y.s y.g y.u y.j y.nu y.pg y.rt y.sn = (l, 0) from hput] at *
        simp only at r22 hc22 ⊢
        have SB := same_any A A22 c c22 l l _ _ w22 r23 r22 (by omega) (by omega)
        rw [decide_eq_true rfl] at SB
        have HSB := hide SB
        clear SB r22 r23 r20 hput h20 hy
        go_wp2_with (go_at_call 37; refine HSB.out.mono ?_; rintro r w24 ⟨rfl, d24⟩)
        go_ret
        exact ⟨rfl, b23.trans (d24.below _)⟩
      · obtain rfl := h20.out.2 hy
        rw [hd_no hy, show hd0.cs = headCells 0 0 0 0 0 0 0 0 0 from rfl]
        clear h20 hy
        go_wp2
        go_ret
        exact ⟨rfl, b20'.alloc b20'.size _⟩
    · obtain rfl := her.out.2 hok
      rw [decide_eq_false hok]
      clear her hok bq
      go_wp2_with fail
      refine (hget_at A c l.length l _ wc r4 rfl (by omega) hcc).mono ?_
      rintro e w20 ⟨e20, rfl, h20, b20⟩
      have r20 := r4.below b20 fun b hb h => Nat.lt_of_lt_of_le h b4.size
      have b20' := b4.trans (b20.mono b4.size)
      clear r4 b4 b20
      by_cases hy : isHead l
      · obtain rfl := h20.out.1 hy
        have hput := hd_back hy
        have ba := (Below.refl w20.heap.size w20).alloc (Nat.le_refl _) (.cells (hd l).cs 55)
        have r21 := r20.below ba fun b hb h => Nat.lt_of_lt_of_le h b20'.size
        have b21 := b20'.trans (ba.mono b20'.size)
        generalize hd l = y at *
        go_wp2_with fail
        generalize w20.alloc (.cells y.cs 55) = w21 at *
        refine (hput_any y.v y.s y.g y.u y.j y.nu y.pg y.rt y.sn w21).mono ?_
        rintro e w22 ⟨A22, c22, rfl, r22, hc22, b22⟩
        have r23 := r21.below b22 fun b hb h => Nat.lt_of_lt_of_le h b21.size
        have b23 := b21.trans (b22.mono b21.size)
        rw [show hputRes y.v y.s y.g y.u y.j y.nu y.pg y.rt y.sn = (l, 0) from hput] at *
        simp only at r22 hc22 ⊢
        have SB := same_any A A22 c c22 l l _ _ w22 r23 r22 (by omega) (by omega)
        rw [decide_eq_true rfl] at SB
        have HSB := hide SB
        clear SB r22 r23 r20 hput h20 hy
        go_wp2_with (go_at_call 37; refine HSB.out.mono ?_; rintro r w24 ⟨rfl, d24⟩)
        go_ret
        exact ⟨rfl, b23.trans (d24.below _)⟩
      · obtain rfl := h20.out.2 hy
        rw [hd_no hy, show hd0.cs = headCells 0 0 0 0 0 0 0 0 0 from rfl]
        clear h20 hy
        go_wp2
        go_ret
        exact ⟨rfl, b20'.alloc b20'.size _⟩
end Go.Proofs.Ytdkcjmpikmnedaa
