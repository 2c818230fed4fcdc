/- The walks through the reference's head.Right and head.Put. -/
import Derived.Test.YtdkcjmpikmnedaaGreatRef11
import Derived.Test.YtdkcjmpikmnedaaGreatLaw12a
namespace Go.Proofs.YtdkcjmpikmnedaaGreat
open Go.RowKit
set_option linter.unusedSimpArgs false

set_option maxRecDepth 100000 in
set_option maxHeartbeats 1600000 in
theorem rright12_any (a : Hd) (w : World) :
    Calls Tryz.prog 72 #[.agg a.cs] w fun e w' => e = .returned (.bool (decide (headOk a))) ∧ Below w.heap.size w w' := by
  have b0 : Below w.heap.size w (w.alloc (.cells a.cs 56)) := (Below.refl _ _).alloc (Nat.le_refl _) _
  have G0 := Blk.new w 56 a.cs
  have RC := fun w => rright11_any a.v a.s a.g a.u a.j w
  have PC := fun w => rPages11_any a.v a.s a.g a.u a.j w
  obtain ⟨B, hB⟩ : ∃ B, B = decide (headOk a) := ⟨_, rfl⟩
  rw [← hB]
  have HIF : headOk a ↔ geoOk a.v a.s a.g a.u a.j ∧ 0 ≤ a.nu ∧ a.nu ≤ 1099511627776 ∧ 1 ≤ a.sn ∧ a.sn ≤ 1073741824 ∧ 1 ≤ a.pg ∧ a.pg ≤ (if geoOk a.v a.s a.g a.u a.j then pagesOf a.v a.s a.g else 0) ∧ 0 ≤ a.rt ∧ a.rt < a.pg := by
    constructor
    · rintro ⟨⟨⟨h1, h2⟩, ⟨h3, h4⟩, h5, h6⟩, h7, h8⟩
      refine ⟨?_, h7, h8, h5, h6, h1, h2, h3, by omega⟩
      by_cases hg : geoOk a.v a.s a.g a.u a.j
      · exact hg
      · rw [if_neg hg] at h2; omega
    · rintro ⟨_, h7, h8, h5, h6, h1, h2, h3, h4⟩
      exact ⟨⟨⟨h1, h2⟩, ⟨h3, by omega⟩, h5, h6⟩, h7, h8⟩
  generalize hPG : (if geoOk a.v a.s a.g a.u a.j then pagesOf a.v a.s a.g else 0) = PG at *
  have no : ¬ headOk a → Ending.returned (Value.bool false) = Ending.returned (Value.bool B) := fun h => by rw [hB, decide_eq_false h]
  have yes : headOk a → Ending.returned (Value.bool true) = Ending.returned (Value.bool B) := fun h => by rw [hB, decide_eq_true h]
  have NO := hide no
  have YES := hide yes
  have HIFF := hide HIF
  clear hB no yes HIF hPG
  go_enter Tryz.func72, Tryz.ntmps72
  go_wp2_with fail
  generalize w.alloc (.cells a.cs 56) = w2 at *
  have hlt0 := G0.lt
  have c0 : w2.cell? ⟨w.heap.size, 0, none⟩ = some (.int .i64 a.v) := G0.cell 0
  have c1 : w2.cell? ⟨w.heap.size, 1, none⟩ = some (.int .i64 a.s) := G0.cell 1
  have c2 : w2.cell? ⟨w.heap.size, 2, none⟩ = some (.int .i64 a.g) := G0.cell 2
  have c3 : w2.cell? ⟨w.heap.size, 3, none⟩ = some (.int .i64 a.u) := G0.cell 3
  have c4 : w2.cell? ⟨w.heap.size, 4, none⟩ = some (.int .i64 a.j) := G0.cell 4
  have c5 : w2.cell? ⟨w.heap.size, 5, none⟩ = some (.int .i64 a.nu) := G0.cell 5
  have c6 : w2.cell? ⟨w.heap.size, 6, none⟩ = some (.int .i64 a.pg) := G0.cell 6
  have c7 : w2.cell? ⟨w.heap.size, 7, none⟩ = some (.int .i64 a.rt) := G0.cell 7
  have c8 : w2.cell? ⟨w.heap.size, 8, none⟩ = some (.int .i64 a.sn) := G0.cell 8
  by_cases h0 : geoOk a.v a.s a.g a.u a.j
  · simp only [decide_eq_true h0] at RC
    refine (RC w2).mono ?_
    rintro e w3 ⟨rfl, b3⟩
    have G3 := G0.below b3 G0.lt
    have b3' := b0.trans (b3.mono b0.size)
    clear RC c0 c1 c2 c3 c4 c5 c6 c7 c8 b3
    have c0 : w3.cell? ⟨w.heap.size, 0, none⟩ = some (.int .i64 a.v) := G3.cell 0
    have c1 : w3.cell? ⟨w.heap.size, 1, none⟩ = some (.int .i64 a.s) := G3.cell 1
    have c2 : w3.cell? ⟨w.heap.size, 2, none⟩ = some (.int .i64 a.g) := G3.cell 2
    have c3 : w3.cell? ⟨w.heap.size, 3, none⟩ = some (.int .i64 a.u) := G3.cell 3
    have c4 : w3.cell? ⟨w.heap.size, 4, none⟩ = some (.int .i64 a.j) := G3.cell 4
    have c5 : w3.cell? ⟨w.heap.size, 5, none⟩ = some (.int .i64 a.nu) := G3.cell 5
    have c6 : w3.cell? ⟨w.heap.size, 6, none⟩ = some (.int .i64 a.pg) := G3.cell 6
    have c7 : w3.cell? ⟨w.heap.size, 7, none⟩ = some (.int .i64 a.rt) := G3.cell 7
    have c8 : w3.cell? ⟨w.heap.size, 8, none⟩ = some (.int .i64 a.sn) := G3.cell 8
    by_cases e0 : 0 ≤ a.nu
    · by_cases e1 : a.nu ≤ 1099511627776
      · by_cases e2 : 1 ≤ a.sn
        · by_cases e3 : a.sn ≤ 1073741824
          · go_wp2_with fail
            have hlt := G3.lt
            obtain ⟨T, f, ht, hf, hf'⟩ := below_fam w3.heap.size w3
            have C0 : ∀ x, (f x).cell? ⟨w.heap.size, 0, none⟩ = some (.int .i64 a.v) := fun x => ((hf x).cell hlt).trans (G3.cell 0)
            have C1 : ∀ x, (f x).cell? ⟨w.heap.size, 1, none⟩ = some (.int .i64 a.s) := fun x => ((hf x).cell hlt).trans (G3.cell 1)
            have C2 : ∀ x, (f x).cell? ⟨w.heap.size, 2, none⟩ = some (.int .i64 a.g) := fun x => ((hf x).cell hlt).trans (G3.cell 2)
            have C3 : ∀ x, (f x).cell? ⟨w.heap.size, 3, none⟩ = some (.int .i64 a.u) := fun x => ((hf x).cell hlt).trans (G3.cell 3)
            have C4 : ∀ x, (f x).cell? ⟨w.heap.size, 4, none⟩ = some (.int .i64 a.j) := fun x => ((hf x).cell hlt).trans (G3.cell 4)
            have C5 : ∀ x, (f x).cell? ⟨w.heap.size, 5, none⟩ = some (.int .i64 a.nu) := fun x => ((hf x).cell hlt).trans (G3.cell 5)
            have C6 : ∀ x, (f x).cell? ⟨w.heap.size, 6, none⟩ = some (.int .i64 a.pg) := fun x => ((hf x).cell hlt).trans (G3.cell 6)
            have C7 : ∀ x, (f x).cell? ⟨w.heap.size, 7, none⟩ = some (.int .i64 a.rt) := fun x => ((hf x).cell hlt).trans (G3.cell 7)
            have C8 : ∀ x, (f x).cell? ⟨w.heap.size, 8, none⟩ = some (.int .i64 a.sn) := fun x => ((hf x).cell hlt).trans (G3.cell 8)
            have HP : ∀ x, Calls Tryz.prog 112 #[.agg #[.int .i64 a.v, .int .i64 a.s, .int .i64 a.g, .int .i64 a.u, .int .i64 a.j]] (f x) fun e w' => e = .returned (.int .i64 PG) ∧ ∃ y, w' = f y := fun x =>
              (PC (f x)).mono fun _ w' ⟨he, hb⟩ => ⟨he, hf' w' ((hf x).trans (hb.mono (hf x).size))⟩
            have hx0 := hf' w3.drew (Below.refl _ _).drew
            have HPP := hide HP
            have HB := hide (And.intro b3' hf)
            have bz : w.heap.size ≤ w3.heap.size := Nat.le_of_lt hlt
            clear HP PC G3 b3' hf hf' c0 c1 c2 c3 c4 c5 c6 c7 c8 G0 b0 hlt0
            by_cases d0 : 1 ≤ a.pg
            · have D0 := decide_eq_true d0
              by_cases d1 : a.pg ≤ PG
              · have D1 := decide_eq_true d1
                by_cases d2 : 0 ≤ a.rt
                · have D2 := decide_eq_true d2
                  by_cases d3 : a.rt < a.pg
                  · have D3 := decide_eq_true d3
                    have Y := hide (YES.out (HIFF.out.2 ⟨h0, e0, e1, e2, e3, d0, d1, d2, d3⟩))
                    clear h0 e0 e1 e2 e3 d0 d1 d2 d3
                    refine wp_region_fam f (by kernel_rfl) (by kernel_rfl) hx0 ?_
                    repeat (refine wpQuiet_step (fun K hK => ?_); go_simp; first | (refine hK _ ?_; clear hK K) | (apply Exists.intro; refine ⟨fun _ => ?_, hK _ ?_⟩; (first | (go_at_call 112; exact HPP.out _)); clear hK K))
                    refine wpQuiet_nil ?_
                    rintro _ ⟨nq, rfl⟩
                    go_wp2
                    go_ret
                    exact ⟨Y.out, HB.out.1.trans ((HB.out.2 nq).mono bz)⟩
                  · have D3 := decide_eq_false d3
                    have Y := hide (NO.out fun k => d3 ((HIFF.out.1 k).2.2.2.2.2.2.2.2))
                    clear h0 e0 e1 e2 e3 d0 d1 d2 d3
                    refine wp_region_fam f (by kernel_rfl) (by kernel_rfl) hx0 ?_
                    repeat (refine wpQuiet_step (fun K hK => ?_); go_simp; first | (refine hK _ ?_; clear hK K) | (apply Exists.intro; refine ⟨fun _ => ?_, hK _ ?_⟩; (first | (go_at_call 112; exact HPP.out _)); clear hK K))
                    refine wpQuiet_nil ?_
                    rintro _ ⟨nq, rfl⟩
                    go_wp2
                    go_ret
                    exact ⟨Y.out, HB.out.1.trans ((HB.out.2 nq).mono bz)⟩
                · have D2 := decide_eq_false d2
                  have Y := hide (NO.out fun k => d2 ((HIFF.out.1 k).2.2.2.2.2.2.2.1))
                  clear h0 e0 e1 e2 e3 d0 d1 d2
                  refine wp_region_fam f (by kernel_rfl) (by kernel_rfl) hx0 ?_
                  repeat (refine wpQuiet_step (fun K hK => ?_); go_simp; first | (refine hK _ ?_; clear hK K) | (apply Exists.intro; refine ⟨fun _ => ?_, hK _ ?_⟩; (first | (go_at_call 112; exact HPP.out _)); clear hK K))
                  refine wpQuiet_nil ?_
                  rintro _ ⟨nq, rfl⟩
                  go_wp2
                  go_ret
                  exact ⟨Y.out, HB.out.1.trans ((HB.out.2 nq).mono bz)⟩
              · have D1 := decide_eq_false d1
                have Y := hide (NO.out fun k => d1 ((HIFF.out.1 k).2.2.2.2.2.2.1))
                clear h0 e0 e1 e2 e3 d0 d1
                refine wp_region_fam f (by kernel_rfl) (by kernel_rfl) hx0 ?_
                repeat (refine wpQuiet_step (fun K hK => ?_); go_simp; first | (refine hK _ ?_; clear hK K) | (apply Exists.intro; refine ⟨fun _ => ?_, hK _ ?_⟩; (first | (go_at_call 112; exact HPP.out _)); clear hK K))
                refine wpQuiet_nil ?_
                rintro _ ⟨nq, rfl⟩
                go_wp2
                go_ret
                exact ⟨Y.out, HB.out.1.trans ((HB.out.2 nq).mono bz)⟩
            · have D0 := decide_eq_false d0
              have Y := hide (NO.out fun k => d0 ((HIFF.out.1 k).2.2.2.2.2.1))
              clear h0 e0 e1 e2 e3 d0
              refine wp_region_fam f (by kernel_rfl) (by kernel_rfl) hx0 ?_
              repeat (refine wpQuiet_step (fun K hK => ?_); go_simp; first | (refine hK _ ?_; clear hK K) | (apply Exists.intro; refine ⟨fun _ => ?_, hK _ ?_⟩; (first | (go_at_call 112; exact HPP.out _)); clear hK K))
              refine wpQuiet_nil ?_
              rintro _ ⟨nq, rfl⟩
              go_wp2
              go_ret
              exact ⟨Y.out, HB.out.1.trans ((HB.out.2 nq).mono bz)⟩
          · have Y := hide (NO.out fun k => e3 ((HIFF.out.1 k).2.2.2.2.1))
            go_wp2
            all_goals (go_ret; exact ⟨Y.out, b3'⟩)
        · have Y := hide (NO.out fun k => e2 ((HIFF.out.1 k).2.2.2.1))
          go_wp2
          all_goals (go_ret; exact ⟨Y.out, b3'⟩)
      · have Y := hide (NO.out fun k => e1 ((HIFF.out.1 k).2.2.1))
        go_wp2
        all_goals (go_ret; exact ⟨Y.out, b3'⟩)
    · have Y := hide (NO.out fun k => e0 ((HIFF.out.1 k).2.1))
      go_wp2
      all_goals (go_ret; exact ⟨Y.out, b3'⟩)
  · simp only [decide_eq_false h0] at RC
    refine (RC w2).mono ?_
    rintro e w3 ⟨rfl, b3⟩
    have Y := hide (NO.out fun k => h0 (HIFF.out.1 k).1)
    clear h0
    go_wp2
    go_ret
    exact ⟨Y.out, b0.trans (b3.mono b0.size)⟩
end Go.Proofs.YtdkcjmpikmnedaaGreat
