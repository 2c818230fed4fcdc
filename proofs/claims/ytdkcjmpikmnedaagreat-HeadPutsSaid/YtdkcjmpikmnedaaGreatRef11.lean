/- The walks through the references of layers 11 and 12, but for the reading of heads. -/
import Derived.Test.YtdkcjmpikmnedaaGreatHeadMath
import Derived.Test.YtdkcjmpikmnedaaGreatLaw10g
namespace Go.Proofs.YtdkcjmpikmnedaaGreat
open Go.RowKit
set_option linter.unusedSimpArgs false

theorem rpages_any (v s g u j : Int) (w : World) (hv : 0 ≤ v ∧ v ≤ 4096) (hs : 0 ≤ s ∧ s ≤ 256) (hg : 0 ≤ g ∧ g ≤ 1024) :
    Calls Tryz.prog 148 #[.agg #[.int .i64 v, .int .i64 s, .int .i64 g, .int .i64 u, .int .i64 j]] w fun e w' => e = .returned (.int .i64 (pagesOf v s g)) ∧ Below w.heap.size w w' := by
  have b0 : Below w.heap.size w (w.alloc (.cells #[.int .i64 v, .int .i64 s, .int .i64 g, .int .i64 u, .int .i64 j] 54)) := (Below.refl _ _).alloc (Nat.le_refl _) _
  obtain ⟨m0, m1⟩ := mul_range s g hs.1 hs.2 hg.1 hg.2
  obtain ⟨hv0, hv1⟩ := hv
  have hd : pagesOf v s g = 2 + (s * g + 9 * (v / 8) + 8) / 4 := rfl
  have HD := hide hd
  clear hd
  go_enter Tryz.func148, Tryz.ntmps148
  go_wp2
  go_ret
  exact ⟨by rw [HD.out]; rfl, b0⟩
set_option maxHeartbeats 800000 in
theorem rfields_any (v s g u j : Int) (w : World) :
    Calls Tryz.prog 146 #[.agg #[.int .i64 v, .int .i64 s, .int .i64 g, .int .i64 u, .int .i64 j]] w fun e w' => e = .returned (.bool (decide (geoFields v s g u j))) ∧ Below w.heap.size w w' := by
  have b0 : Below w.heap.size w (w.alloc (.cells #[.int .i64 v, .int .i64 s, .int .i64 g, .int .i64 u, .int .i64 j] 54)) := (Below.refl _ _).alloc (Nat.le_refl _) _
  obtain ⟨B, hB⟩ : ∃ B, B = decide (geoFields v s g u j) := ⟨_, rfl⟩
  rw [← hB]
  have HB := hide hB
  have HB0 := hide b0
  clear hB b0
  have no : ∀ {p : Prop}, ¬ geoFields v s g u j → Ending.returned (Value.bool false) = Ending.returned (Value.bool B) := fun h => by rw [HB.out, decide_eq_false h]
  have yes : geoFields v s g u j → Ending.returned (Value.bool true) = Ending.returned (Value.bool B) := fun h => by rw [HB.out, decide_eq_true h]
  by_cases h1 : 8 ≤ v ∧ v ≤ 4096 ∧ v % 8 = 0 ∧ 2 ≤ s ∧ s ≤ 256
  · by_cases h2 : 1 ≤ u ∧ u ≤ 16 ∧ 16 ≤ g ∧ g ≤ 1024 ∧ 2 * (8 * u + 1) ≤ g
    · by_cases h3 : 8 ≤ j ∧ j ≤ 64
      · have Y := hide (yes ⟨⟨h1.1, h1.2.1⟩, h1.2.2.1, h1.2.2.2, ⟨h2.1, h2.2.1⟩, ⟨h2.2.2.1, h2.2.2.2.2, h2.2.2.2.1⟩, h3⟩)
        obtain ⟨a1, a2, a3, a4, a5⟩ := h1
        obtain ⟨c1, c2, c3, c4, c5⟩ := h2
        obtain ⟨d1, d2⟩ := h3
        clear no yes
        go_enter Tryz.func146, Tryz.ntmps146
        go_wp2
        all_goals (go_ret; exact ⟨Y.out, HB0.out⟩)
      · have Y := hide (no (p := True) (fun h => h3 h.2.2.2.2.2))
        obtain ⟨a1, a2, a3, a4, a5⟩ := h1
        obtain ⟨c1, c2, c3, c4, c5⟩ := h2
        clear no yes
        by_cases d1 : 8 ≤ j
        · have d2 : ¬ j ≤ 64 := fun h => h3 ⟨d1, h⟩
          clear h3
          go_enter Tryz.func146, Tryz.ntmps146
          go_wp2
          all_goals (go_ret; exact ⟨Y.out, HB0.out⟩)
        · clear h3
          go_enter Tryz.func146, Tryz.ntmps146
          go_wp2
          all_goals (go_ret; exact ⟨Y.out, HB0.out⟩)
    · have Y := hide (no (p := True) (fun h => h2 ⟨h.2.2.2.1.1, h.2.2.2.1.2, h.2.2.2.2.1.1, h.2.2.2.2.1.2.2, h.2.2.2.2.1.2.1⟩))
      obtain ⟨a1, a2, a3, a4, a5⟩ := h1
      clear no yes
      by_cases e0 : 1 ≤ u
      · by_cases e1 : u ≤ 16
        · by_cases e2 : 16 ≤ g
          · by_cases e3 : g ≤ 1024
            · by_cases e4 : 2 * (8 * u + 1) ≤ g
              · exact absurd ⟨e0, e1, e2, e3, e4⟩ h2
              · clear h2
                go_enter Tryz.func146, Tryz.ntmps146
                go_wp2
                all_goals (go_ret; exact ⟨Y.out, HB0.out⟩)
            · clear h2
              go_enter Tryz.func146, Tryz.ntmps146
              go_wp2
              all_goals (go_ret; exact ⟨Y.out, HB0.out⟩)
          · clear h2
            go_enter Tryz.func146, Tryz.ntmps146
            go_wp2
            all_goals (go_ret; exact ⟨Y.out, HB0.out⟩)
        · clear h2
          go_enter Tryz.func146, Tryz.ntmps146
          go_wp2
          all_goals (go_ret; exact ⟨Y.out, HB0.out⟩)
      · clear h2
        go_enter Tryz.func146, Tryz.ntmps146
        go_wp2
        all_goals (go_ret; exact ⟨Y.out, HB0.out⟩)
  · have Y := hide (no (p := True) (fun h => h1 ⟨h.1.1, h.1.2, h.2.1, h.2.2.1⟩))
    clear no yes
    by_cases e0 : 8 ≤ v
    · by_cases e1 : v ≤ 4096
      · by_cases e2 : v % 8 = 0
        · by_cases e3 : 2 ≤ s
          · by_cases e4 : s ≤ 256
            · exact absurd ⟨e0, e1, e2, e3, e4⟩ h1
            · clear h1
              go_enter Tryz.func146, Tryz.ntmps146
              go_wp2
              all_goals (go_ret; exact ⟨Y.out, HB0.out⟩)
          · clear h1
            go_enter Tryz.func146, Tryz.ntmps146
            go_wp2
            all_goals (go_ret; exact ⟨Y.out, HB0.out⟩)
        · clear h1
          go_enter Tryz.func146, Tryz.ntmps146
          go_wp2
          all_goals (go_ret; exact ⟨Y.out, HB0.out⟩)
      · clear h1
        go_enter Tryz.func146, Tryz.ntmps146
        go_wp2
        all_goals (go_ret; exact ⟨Y.out, HB0.out⟩)
    · clear h1
      go_enter Tryz.func146, Tryz.ntmps146
      go_wp2
      all_goals (go_ret; exact ⟨Y.out, HB0.out⟩)
theorem rsectors_any (v s g u j : Int) (w : World) (hv : 0 ≤ v ∧ v ≤ 4096) (hs : 0 ≤ s ∧ s ≤ 256) (hg : 0 ≤ g ∧ g ≤ 1024) (hj : 0 ≤ j ∧ j ≤ 64) :
    Calls Tryz.prog 147 #[.agg #[.int .i64 v, .int .i64 s, .int .i64 g, .int .i64 u, .int .i64 j]] w fun e w' => e = .returned (.int .i64 (geoEnd v s g j)) ∧ Below w.heap.size w w' := by
  have b0 : Below w.heap.size w (w.alloc (.cells #[.int .i64 v, .int .i64 s, .int .i64 g, .int .i64 u, .int .i64 j] 54)) := (Below.refl _ _).alloc (Nat.le_refl _) _
  have G0 := Blk.new w 54 #[.int .i64 v, .int .i64 s, .int .i64 g, .int .i64 u, .int .i64 j]
  obtain ⟨m0, m1⟩ := mul_range s g hs.1 hs.2 hg.1 hg.2
  have p0 : 0 ≤ pagesOf v s g := by unfold pagesOf; omega
  have p1 : pagesOf v s g ≤ 100000 := by unfold pagesOf; omega
  have hdef : geoEnd v s g j = 2 + 2 * j + 4 * pagesOf v s g + s * g := rfl
  have HD := hide hdef
  have PC := fun w => rpages_any v s g u j w hv hs hg
  obtain ⟨hj0, hj1⟩ := hj
  go_enter Tryz.func147, Tryz.ntmps147
  go_wp2_with fail
  generalize w.alloc (.cells #[.int .i64 v, .int .i64 s, .int .i64 g, .int .i64 u, .int .i64 j] 54) = w2 at *
  have hlt := G0.lt
  obtain ⟨T, f, ht, hf, hf'⟩ := below_fam w2.heap.size w2
  have c0 : ∀ x, (f x).cell? ⟨w.heap.size, 0, none⟩ = some (.int .i64 v) := fun x => ((hf x).cell hlt).trans (G0.cell 0)
  have c1 : ∀ x, (f x).cell? ⟨w.heap.size, 1, none⟩ = some (.int .i64 s) := fun x => ((hf x).cell hlt).trans (G0.cell 1)
  have c2 : ∀ x, (f x).cell? ⟨w.heap.size, 2, none⟩ = some (.int .i64 g) := fun x => ((hf x).cell hlt).trans (G0.cell 2)
  have c3 : ∀ x, (f x).cell? ⟨w.heap.size, 3, none⟩ = some (.int .i64 u) := fun x => ((hf x).cell hlt).trans (G0.cell 3)
  have c4 : ∀ x, (f x).cell? ⟨w.heap.size, 4, none⟩ = some (.int .i64 j) := fun x => ((hf x).cell hlt).trans (G0.cell 4)
  have HP : ∀ x, Calls Tryz.prog 148 #[.agg #[.int .i64 v, .int .i64 s, .int .i64 g, .int .i64 u, .int .i64 j]] (f x) fun e w' => e = .returned (.int .i64 (pagesOf v s g)) ∧ ∃ y, w' = f y := fun x =>
    (PC (f x)).mono fun _ w' ⟨he, hb⟩ => ⟨he, hf' w' ((hf x).trans (hb.mono (hf x).size))⟩
  have hx0 := hf' w2.drew (Below.refl _ _).drew
  have HPP := hide HP
  have HB := hide (And.intro b0 hf)
  have bz : w.heap.size ≤ w2.heap.size := Nat.le_of_lt hlt
  clear HP hdef PC G0 b0 hf hf' hv hs hg
  generalize pagesOf v s g = pp at *
  have q1 : IntKind.i64.wrap (2 * j) = 2 * j := IntWalk.i64_in _ (by omega)
  have q2 : IntKind.i64.wrap (2 + 2 * j) = 2 + 2 * j := IntWalk.i64_in _ (by omega)
  have q3 : IntKind.i64.wrap (4 * pp) = 4 * pp := IntWalk.i64_in _ (by omega)
  have q4 : IntKind.i64.wrap (2 + 2 * j + 4 * pp) = 2 + 2 * j + 4 * pp := IntWalk.i64_in _ (by omega)
  have q5 : IntKind.i64.wrap (s * g) = s * g := IntWalk.i64_in _ (by omega)
  have q6 : IntKind.i64.wrap (2 + 2 * j + 4 * pp + s * g) = 2 + 2 * j + 4 * pp + s * g := IntWalk.i64_in _ (by omega)
  refine wp_region_fam f (by kernel_rfl) (by kernel_rfl) hx0 ?_
  repeat (refine wpQuiet_step (fun K hK => ?_); go_simp; first | (refine hK _ ?_; clear hK K) | (apply Exists.intro; refine ⟨fun _ => ?_, hK _ ?_⟩; (go_at_call 148; exact HPP.out _); clear hK K))
  refine wpQuiet_nil ?_
  rintro _ ⟨nq, rfl⟩
  go_wp2
  go_ret
  exact ⟨by rw [HD.out]; rfl, HB.out.1.trans ((HB.out.2 nq).mono bz)⟩

theorem rright11_any (v s g u j : Int) (w : World) :
    Calls Tryz.prog 111 #[.agg #[.int .i64 v, .int .i64 s, .int .i64 g, .int .i64 u, .int .i64 j]] w fun e w' => e = .returned (.bool (decide (geoOk v s g u j))) ∧ Below w.heap.size w w' := by
  have b0 : Below w.heap.size w (w.alloc (.cells #[.int .i64 v, .int .i64 s, .int .i64 g, .int .i64 u, .int .i64 j] 54)) := (Below.refl _ _).alloc (Nat.le_refl _) _
  have G0 := Blk.new w 54 #[.int .i64 v, .int .i64 s, .int .i64 g, .int .i64 u, .int .i64 j]
  have RF := rfields_any v s g u j (w.alloc (.cells #[.int .i64 v, .int .i64 s, .int .i64 g, .int .i64 u, .int .i64 j] 54))
  by_cases h : geoFields v s g u j
  · rw [decide_eq_true h] at RF
    have HG : decide (geoOk v s g u j) = decide (geoEnd v s g j ≤ 262144) := decide_eq_decide.2 ⟨fun k => k.2, fun k => ⟨h, k⟩⟩
    have HGG := hide HG
    obtain ⟨k1, k2, k3, k4, k5, k6⟩ := h
    have RS := fun w => rsectors_any v s g u j w (by omega) (by omega) (by omega) (by omega)
    have HRF := hide RF
    have HRS := hide RS
    clear RF RS HG k1 k2 k3 k4 k5 k6
    go_enter Tryz.func111, Tryz.ntmps111
    go_wp2_with fail
    refine HRF.out.mono ?_
    rintro e w2 ⟨rfl, b1⟩
    have G2 := G0.below b1 G0.lt
    have b2 := b0.trans (b1.mono b0.size)
    have c0 : w2.cell? ⟨w.heap.size, 0, none⟩ = some (.int .i64 v) := G2.cell 0
    have c1 : w2.cell? ⟨w.heap.size, 1, none⟩ = some (.int .i64 s) := G2.cell 1
    have c2 : w2.cell? ⟨w.heap.size, 2, none⟩ = some (.int .i64 g) := G2.cell 2
    have c3 : w2.cell? ⟨w.heap.size, 3, none⟩ = some (.int .i64 u) := G2.cell 3
    have c4 : w2.cell? ⟨w.heap.size, 4, none⟩ = some (.int .i64 j) := G2.cell 4
    clear HRF G0 b0 b1 G2
    go_wp2_with fail
    refine (HRS.out w2).mono ?_
    rintro e w3 ⟨rfl, b3⟩
    go_wp2
    go_ret
    exact ⟨by rw [HGG.out]; rfl, b2.trans (b3.mono b2.size)⟩
  · rw [decide_eq_false h] at RF
    have HG := hide (show decide (geoOk v s g u j) = false from decide_eq_false fun k => h k.1)
    have HRF := hide RF
    clear RF h
    go_enter Tryz.func111, Tryz.ntmps111
    go_wp2_with fail
    refine HRF.out.mono ?_
    rintro e w2 ⟨rfl, b1⟩
    go_wp2
    go_ret
    exact ⟨by rw [HG.out]; rfl, b0.trans (b1.mono b0.size)⟩
theorem rPages11_any (v s g u j : Int) (w : World) :
    Calls Tryz.prog 112 #[.agg #[.int .i64 v, .int .i64 s, .int .i64 g, .int .i64 u, .int .i64 j]] w fun e w' => e = .returned (.int .i64 (if geoOk v s g u j then pagesOf v s g else 0)) ∧ Below w.heap.size w w' := by
  have b0 : Below w.heap.size w (w.alloc (.cells #[.int .i64 v, .int .i64 s, .int .i64 g, .int .i64 u, .int .i64 j] 54)) := (Below.refl _ _).alloc (Nat.le_refl _) _
  have G0 := Blk.new w 54 #[.int .i64 v, .int .i64 s, .int .i64 g, .int .i64 u, .int .i64 j]
  have R := rright11_any v s g u j (w.alloc (.cells #[.int .i64 v, .int .i64 s, .int .i64 g, .int .i64 u, .int .i64 j] 54))
  by_cases h : geoOk v s g u j
  · rw [decide_eq_true h] at R
    rw [if_pos h]
    have HR := hide R
    have HH := hide h
    clear R h
    go_enter Tryz.func112, Tryz.ntmps112
    go_wp2_with fail
    refine HR.out.mono ?_
    rintro e w2 ⟨rfl, b1⟩
    have G2 := G0.below b1 G0.lt
    have b2 := b0.trans (b1.mono b0.size)
    have c0 : w2.cell? ⟨w.heap.size, 0, none⟩ = some (.int .i64 v) := G2.cell 0
    have c1 : w2.cell? ⟨w.heap.size, 1, none⟩ = some (.int .i64 s) := G2.cell 1
    have c2 : w2.cell? ⟨w.heap.size, 2, none⟩ = some (.int .i64 g) := G2.cell 2
    have c3 : w2.cell? ⟨w.heap.size, 3, none⟩ = some (.int .i64 u) := G2.cell 3
    have c4 : w2.cell? ⟨w.heap.size, 4, none⟩ = some (.int .i64 j) := G2.cell 4
    clear HR G0 b0 b1 G2
    go_wp2_with fail
    obtain ⟨g1, g2, g3⟩ := geo_bounds HH.out
    refine (rpages_any v s g u j w2 g1 g2 g3).mono ?_
    rintro e w3 ⟨rfl, b3⟩
    go_wp2
    go_ret
    exact ⟨rfl, b2.trans (b3.mono b2.size)⟩
  · rw [decide_eq_false h] at R
    rw [if_neg h]
    have HR := hide R
    clear R h
    go_enter Tryz.func112, Tryz.ntmps112
    go_wp2_with fail
    refine HR.out.mono ?_
    rintro e w2 ⟨rfl, b1⟩
    go_wp2
    go_ret
    exact ⟨rfl, b0.trans (b1.mono b0.size)⟩
end Go.Proofs.YtdkcjmpikmnedaaGreat
