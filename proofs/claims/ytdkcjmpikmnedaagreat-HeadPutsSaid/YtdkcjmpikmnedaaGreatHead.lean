/- The walks through head. -/
import Derived.Test.YtdkcjmpikmnedaaGreatLayout
import Derived.Test.YtdkcjmpikmnedaaGreatLaw10
import Derived.Test.YtdkcjmpikmnedaaGreatOrder
namespace Go.Proofs.YtdkcjmpikmnedaaGreat
open Go.RowKit

theorem geo_bounds {v s g u j : Int} (h : geoOk v s g u j) : (0 ≤ v ∧ v ≤ 4096) ∧ (0 ≤ s ∧ s ≤ 256) ∧ (0 ≤ g ∧ g ≤ 1024) := by
  obtain ⟨⟨h1, _, h3, _, h5, _⟩, _⟩ := h
  omega
theorem Pages_any (v s g u j : Int) (w : World) :
    Calls Tryz.prog 107 #[.agg #[.int .i64 v, .int .i64 s, .int .i64 g, .int .i64 u, .int .i64 j]] w fun e w' => e = .returned (.int .i64 (if geoOk v s g u j then pagesOf v s g else 0)) ∧ Below w.heap.size w w' := by
  have b0 : Below w.heap.size w (w.alloc (.cells #[.int .i64 v, .int .i64 s, .int .i64 g, .int .i64 u, .int .i64 j] 54)) := (Below.refl _ _).alloc (Nat.le_refl _) _
  have G0 : Blk (w.alloc (.cells #[.int .i64 v, .int .i64 s, .int .i64 g, .int .i64 u, .int .i64 j] 54)) w.heap.size 54 #[.int .i64 v, .int .i64 s, .int .i64 g, .int .i64 u, .int .i64 j] := Blk.new _ _ _
  have R := right_any v s g u j (w.alloc (.cells #[.int .i64 v, .int .i64 s, .int .i64 g, .int .i64 u, .int .i64 j] 54))
  by_cases h : geoOk v s g u j
  · rw [decide_eq_true h] at R
    rw [if_pos h]
    have HR := hide R
    have HH := hide h
    clear R h
    go_enter Tryz.func107, Tryz.ntmps107
    go_wp2_with fail
    refine HR.out.mono ?_
    rintro e w2 ⟨rfl, b1⟩
    have G2 := G0.below b1 G0.lt
    have b2 := b0.trans (b1.mono b0.size)
    clear HR G0 b0 b1
    have c0 : w2.cell? ⟨w.heap.size, 0, none⟩ = some (.int .i64 v) := G2.cell 0
    have c1 : w2.cell? ⟨w.heap.size, 1, none⟩ = some (.int .i64 s) := G2.cell 1
    have c2 : w2.cell? ⟨w.heap.size, 2, none⟩ = some (.int .i64 g) := G2.cell 2
    have c3 : w2.cell? ⟨w.heap.size, 3, none⟩ = some (.int .i64 u) := G2.cell 3
    have c4 : w2.cell? ⟨w.heap.size, 4, none⟩ = some (.int .i64 j) := G2.cell 4
    go_wp2_with fail
    obtain ⟨g1, g2, g3⟩ := geo_bounds HH.out
    refine (pages_any v s g u j w2 g1 g2 g3).mono ?_
    rintro e w3 ⟨rfl, b3⟩
    go_wp2
    go_ret
    exact ⟨rfl, b2.trans (b3.mono b2.size)⟩
  · rw [decide_eq_false h] at R
    rw [if_neg h]
    have HR := hide R
    clear R h
    go_enter Tryz.func107, Tryz.ntmps107
    go_wp2_with fail
    refine HR.out.mono ?_
    rintro e w2 ⟨rfl, b1⟩
    go_wp2
    go_ret
    exact ⟨rfl, b0.trans (b1.mono b0.size)⟩
theorem within_any (n l m : Int) (w : World) : Calls Tryz.prog 106 #[.int .i64 n, .int .i64 l, .int .i64 m] w fun e w' => e = .returned (.bool (decide (l ≤ n ∧ n ≤ m))) ∧ w = w' := by
  by_cases h1 : l ≤ n
  · by_cases h2 : n ≤ m
    · rw [decide_eq_true (show l ≤ n ∧ n ≤ m from ⟨h1, h2⟩)]
      go_enter Tryz.func106, Tryz.ntmps106
      go_wp2
      go_ret
      exact ⟨rfl, rfl⟩
    · rw [decide_eq_false (show ¬ (l ≤ n ∧ n ≤ m) from fun h => h2 h.2)]
      go_enter Tryz.func106, Tryz.ntmps106
      go_wp2
      go_ret
      exact ⟨rfl, rfl⟩
  · rw [decide_eq_false (show ¬ (l ≤ n ∧ n ≤ m) from fun h => h1 h.1)]
    go_enter Tryz.func106, Tryz.ntmps106
    go_wp2
    go_ret
    exact ⟨rfl, rfl⟩

/-- Is a head right, but for its number? -/
def headRight (v s g u j pg rt sn : Int) : Prop := (1 ≤ pg ∧ pg ≤ if geoOk v s g u j then pagesOf v s g else 0) ∧ (0 ≤ rt ∧ rt ≤ pg - 1) ∧ (1 ≤ sn ∧ sn ≤ 1073741824)
instance (v s g u j pg rt sn : Int) : Decidable (headRight v s g u j pg rt sn) := by unfold headRight; infer_instance
theorem pages_small (v s g u j : Int) : (if geoOk v s g u j then pagesOf v s g else 0) ≤ 100000 := by
  split
  · rename_i h
    obtain ⟨g1, g2, g3⟩ := geo_bounds h
    obtain ⟨m0, m1⟩ := mul_range s g g2.1 g2.2 g3.1 g3.2
    unfold pagesOf
    omega
  · omega
set_option maxHeartbeats 800000 in
theorem hright_any (v s g u j nu pg rt sn : Int) (w : World) :
    Calls Tryz.prog 69 #[.agg #[.int .i64 v, .int .i64 s, .int .i64 g, .int .i64 u, .int .i64 j, .int .i64 nu, .int .i64 pg, .int .i64 rt, .int .i64 sn]] w fun e w' => e = .returned (.bool (decide (headRight v s g u j pg rt sn))) ∧ Below w.heap.size w w' := by
  have b0 : Below w.heap.size w (w.alloc (.cells #[.int .i64 v, .int .i64 s, .int .i64 g, .int .i64 u, .int .i64 j, .int .i64 nu, .int .i64 pg, .int .i64 rt, .int .i64 sn] 56)) := (Below.refl _ _).alloc (Nat.le_refl _) _
  have G0 : Blk (w.alloc (.cells #[.int .i64 v, .int .i64 s, .int .i64 g, .int .i64 u, .int .i64 j, .int .i64 nu, .int .i64 pg, .int .i64 rt, .int .i64 sn] 56)) w.heap.size 56 #[.int .i64 v, .int .i64 s, .int .i64 g, .int .i64 u, .int .i64 j, .int .i64 nu, .int .i64 pg, .int .i64 rt, .int .i64 sn] := Blk.new _ _ _
  have hsmall := pages_small v s g u j
  have hdef : headRight v s g u j pg rt sn = ((1 ≤ pg ∧ pg ≤ if geoOk v s g u j then pagesOf v s g else 0) ∧ (0 ≤ rt ∧ rt ≤ pg - 1) ∧ (1 ≤ sn ∧ sn ≤ 1073741824)) := rfl
  have PC := fun w => Pages_any v s g u j w
  generalize (if geoOk v s g u j then pagesOf v s g else 0) = PG at *
  go_enter Tryz.func69, Tryz.ntmps69
  go_wp2_with fail
  generalize w.alloc (.cells #[.int .i64 v, .int .i64 s, .int .i64 g, .int .i64 u, .int .i64 j, .int .i64 nu, .int .i64 pg, .int .i64 rt, .int .i64 sn] 56) = w2 at *
  have c0 : w2.cell? ⟨w.heap.size, 0, none⟩ = some (.int .i64 v) := G0.cell 0
  have c1 : w2.cell? ⟨w.heap.size, 1, none⟩ = some (.int .i64 s) := G0.cell 1
  have c2 : w2.cell? ⟨w.heap.size, 2, none⟩ = some (.int .i64 g) := G0.cell 2
  have c3 : w2.cell? ⟨w.heap.size, 3, none⟩ = some (.int .i64 u) := G0.cell 3
  have c4 : w2.cell? ⟨w.heap.size, 4, none⟩ = some (.int .i64 j) := G0.cell 4
  have c5 : w2.cell? ⟨w.heap.size, 5, none⟩ = some (.int .i64 nu) := G0.cell 5
  have c6 : w2.cell? ⟨w.heap.size, 6, none⟩ = some (.int .i64 pg) := G0.cell 6
  have c7 : w2.cell? ⟨w.heap.size, 7, none⟩ = some (.int .i64 rt) := G0.cell 7
  have c8 : w2.cell? ⟨w.heap.size, 8, none⟩ = some (.int .i64 sn) := G0.cell 8
  have hlt := G0.lt
  obtain ⟨T, f, ht, hf, hf'⟩ := below_fam w2.heap.size w2
  have C0 : ∀ x, (f x).cell? ⟨w.heap.size, 0, none⟩ = some (.int .i64 v) := fun x => ((hf x).cell hlt).trans c0
  have C1 : ∀ x, (f x).cell? ⟨w.heap.size, 1, none⟩ = some (.int .i64 s) := fun x => ((hf x).cell hlt).trans c1
  have C2 : ∀ x, (f x).cell? ⟨w.heap.size, 2, none⟩ = some (.int .i64 g) := fun x => ((hf x).cell hlt).trans c2
  have C3 : ∀ x, (f x).cell? ⟨w.heap.size, 3, none⟩ = some (.int .i64 u) := fun x => ((hf x).cell hlt).trans c3
  have C4 : ∀ x, (f x).cell? ⟨w.heap.size, 4, none⟩ = some (.int .i64 j) := fun x => ((hf x).cell hlt).trans c4
  have C5 : ∀ x, (f x).cell? ⟨w.heap.size, 5, none⟩ = some (.int .i64 nu) := fun x => ((hf x).cell hlt).trans c5
  have C6 : ∀ x, (f x).cell? ⟨w.heap.size, 6, none⟩ = some (.int .i64 pg) := fun x => ((hf x).cell hlt).trans c6
  have C7 : ∀ x, (f x).cell? ⟨w.heap.size, 7, none⟩ = some (.int .i64 rt) := fun x => ((hf x).cell hlt).trans c7
  have C8 : ∀ x, (f x).cell? ⟨w.heap.size, 8, none⟩ = some (.int .i64 sn) := fun x => ((hf x).cell hlt).trans c8
  have HP : ∀ x, Calls Tryz.prog 107 #[.agg #[.int .i64 v, .int .i64 s, .int .i64 g, .int .i64 u, .int .i64 j]] (f x) fun e w' => e = .returned (.int .i64 PG) ∧ ∃ y, w' = f y := fun x =>
    (PC (f x)).mono fun e w' ⟨he, hb⟩ => ⟨he, hf' w' ((hf x).trans (hb.mono (hf x).size))⟩
  have HW : ∀ x n l m, Calls Tryz.prog 106 #[.int .i64 n, .int .i64 l, .int .i64 m] (f x) fun e w' => e = .returned (.bool (decide (l ≤ n ∧ n ≤ m))) ∧ ∃ y, w' = f y := fun x n l m =>
    (within_any n l m (f x)).mono fun e w' ⟨he, hb⟩ => ⟨he, x, hb.symm⟩
  have hx0 := hf' w2.drew (Below.refl _ _).drew
  have HPP := hide HP
  have HWW := hide HW
  have HD := hide hdef
  have HB := hide (And.intro b0 hf)
  have bz : w.heap.size ≤ w2.heap.size := Nat.le_of_lt hlt
  clear HP HW hdef PC G0 b0 hf hf' c0 c1 c2 c3 c4 c5 c6 c7 c8
  by_cases h1 : 1 ≤ pg ∧ pg ≤ PG
  · have D1 := decide_eq_true h1
    have hw : IntKind.i64.wrap (pg - 1) = pg - 1 := IntWalk.i64_in _ (by omega)
    by_cases h2 : 0 ≤ rt ∧ rt ≤ pg - 1
    · have D2 := decide_eq_true h2
      by_cases h3 : 1 ≤ sn ∧ sn ≤ 1073741824
      · have D3 := decide_eq_true h3
        have HFF := hide (show decide (headRight v s g u j pg rt sn) = true from decide_eq_true (by rw [HD.out]; exact ⟨h1, h2, h3⟩))
        clear h1 h2 h3
        refine wp_region_fam f (by kernel_rfl) (by kernel_rfl) hx0 ?_
        repeat (refine wpQuiet_step (fun K hK => ?_); go_simp; first | (refine hK _ ?_; clear hK K) | (apply Exists.intro; refine ⟨fun _ => ?_, hK _ ?_⟩; (first | (go_at_call 107; exact HPP.out _) | (go_at_call 106; exact HWW.out _ _ _ _)); clear hK K))
        refine wpQuiet_nil ?_
        rintro _ ⟨nq, rfl⟩
        go_wp2
        go_ret
        exact ⟨by rw [HFF.out]; rfl, HB.out.1.trans ((HB.out.2 nq).mono bz)⟩
      · have D3 := decide_eq_false h3
        have HFF := hide (show decide (headRight v s g u j pg rt sn) = false from decide_eq_false (by rw [HD.out]; exact fun h => h3 h.2.2))
        clear h1 h2 h3
        refine wp_region_fam f (by kernel_rfl) (by kernel_rfl) hx0 ?_
        repeat (refine wpQuiet_step (fun K hK => ?_); go_simp; first | (refine hK _ ?_; clear hK K) | (apply Exists.intro; refine ⟨fun _ => ?_, hK _ ?_⟩; (first | (go_at_call 107; exact HPP.out _) | (go_at_call 106; exact HWW.out _ _ _ _)); clear hK K))
        refine wpQuiet_nil ?_
        rintro _ ⟨nq, rfl⟩
        go_wp2
        go_ret
        exact ⟨by rw [HFF.out]; rfl, HB.out.1.trans ((HB.out.2 nq).mono bz)⟩
    · have D2 := decide_eq_false h2
      have HFF := hide (show decide (headRight v s g u j pg rt sn) = false from decide_eq_false (by rw [HD.out]; exact fun h => h2 h.2.1))
      clear h1 h2
      refine wp_region_fam f (by kernel_rfl) (by kernel_rfl) hx0 ?_
      repeat (refine wpQuiet_step (fun K hK => ?_); go_simp; first | (refine hK _ ?_; clear hK K) | (apply Exists.intro; refine ⟨fun _ => ?_, hK _ ?_⟩; (first | (go_at_call 107; exact HPP.out _) | (go_at_call 106; exact HWW.out _ _ _ _)); clear hK K))
      refine wpQuiet_nil ?_
      rintro _ ⟨nq, rfl⟩
      go_wp2
      go_ret
      exact ⟨by rw [HFF.out]; rfl, HB.out.1.trans ((HB.out.2 nq).mono bz)⟩
  · have D1 := decide_eq_false h1
    have HFF := hide (show decide (headRight v s g u j pg rt sn) = false from decide_eq_false (by rw [HD.out]; exact fun h => h1 h.1))
    clear h1
    refine wp_region_fam f (by kernel_rfl) (by kernel_rfl) hx0 ?_
    repeat (refine wpQuiet_step (fun K hK => ?_); go_simp; first | (refine hK _ ?_; clear hK K) | (apply Exists.intro; refine ⟨fun _ => ?_, hK _ ?_⟩; (first | (go_at_call 107; exact HPP.out _) | (go_at_call 106; exact HWW.out _ _ _ _)); clear hK K))
    refine wpQuiet_nil ?_
    rintro _ ⟨nq, rfl⟩
    go_wp2
    go_ret
    exact ⟨by rw [HFF.out]; rfl, HB.out.1.trans ((HB.out.2 nq).mono bz)⟩
end Go.Proofs.YtdkcjmpikmnedaaGreat
