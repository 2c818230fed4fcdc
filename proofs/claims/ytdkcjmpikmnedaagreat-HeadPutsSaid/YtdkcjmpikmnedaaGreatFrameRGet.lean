/- The walk through the reference's Get. -/
import Derived.Test.YtdkcjmpikmnedaaGreatFrameGet
import Derived.Test.YtdkcjmpikmnedaaGreatFrameRef
import Derived.Test.YtdkcjmpikmnedaaGreatSink
import Derived.Deep.DrawnRows
import Derived.Deep.CutRange
import Derived.Deep.RegionHeld3
namespace Go.Proofs.YtdkcjmpikmnedaaGreat
open Go.RowKit
attribute [local go_sem ↓] Go.wp_at_zero Go.wp_at_succ

theorem rsaid_at (A : Option Addr) (c n : Nat) (l : List B8) (P : Nat → Prop) (w : World) (hr : Rd w P A (bs l)) (hl : l.length = n) (hn : n ≤ 8) :
    Calls Tryz.prog 149 #[.slice A n c] w fun e w' => e = .returned (.int .u64 (said l : Nat)) ∧ w = w' := by
  subst hl
  exact rsaid_any A c l P w hr hn

theorem rget_short (A : Option Addr) (c : Nat) (l : List B8) (w : World) (h : l.length < 512) :
    Calls Tryz.prog 114 #[.slice A l.length c] w (GetPost w l) := by
  have hn : ¬ isFrame l := fun h' => by have := h'.1; omega
  have HN := hide hn
  have D : decide ((l.length : Int) < 512) = true := decide_eq_true (by omega)
  have B1 : Blk (w.alloc (.cells #[.int .i64 0, .int .i64 0, .int .i64 0, .slice none 0 0] 111)) w.heap.size 111 #[.int .i64 0, .int .i64 0, .int .i64 0, .slice none 0 0] := Blk.new _ _ _
  have b1 : Below w.heap.size w (w.alloc (.cells #[.int .i64 0, .int .i64 0, .int .i64 0, .slice none 0 0] 111)) := (Below.refl _ _).alloc (Nat.le_refl _) _
  clear hn
  go_enter Tryz.func114, Tryz.ntmps114
  go_wp2
  refine bodyPost_ret (v := .tuple #[.agg #[.int .i64 0, .int .i64 0, .int .i64 0, .slice none 0 0], .int .i64 0, .int .i64 4]) ?_ rfl ⟨.inr ⟨HN.out, rfl⟩, b1⟩
  exact results_cell3 (p := 2) (u := 3) (v := 4) rfl _ _ w.heap.size _ _ rfl B1 Tryz.underlying111 rfl frame_size

set_option linter.unusedSimpArgs false in
set_option linter.unusedSimpArgs false in
set_option linter.unusedSimpArgs false in
set_option linter.unusedSimpArgs false in
set_option linter.unusedSimpArgs false in
set_option maxRecDepth 100000 in
set_option maxHeartbeats 8000000 in
theorem rget_long (A : Option Addr) (c : Nat) (l : List B8) (P : Nat → Prop) (w : World) (hr : Rd w P A (bs l)) (h : 512 ≤ l.length) (hl : l.length ≤ 1000000) (hc : l.length ≤ c) :
    Calls Tryz.prog 114 #[.slice A l.length c] w (GetPost w l) := by
  have D : decide ((l.length : Int) < 512) = false := decide_eq_false (by omega)
  have B2 : Blk (w.alloc (.cells #[.int .i64 0, .int .i64 0, .int .i64 0, .slice none 0 0] 111)) w.heap.size 111 #[.int .i64 0, .int .i64 0, .int .i64 0, .slice none 0 0] := Blk.new _ _ _
  have b2 : Below w.heap.size w (w.alloc (.cells #[.int .i64 0, .int .i64 0, .int .i64 0, .slice none 0 0] 111)) := (Below.refl _ _).alloc (Nat.le_refl _) _
  obtain ⟨b, off, rfl⟩ : ∃ b off, A = some ⟨b, off, none⟩ := by
    obtain ⟨b, off, rfl, _⟩ := hr (by simp; omega)
    exact ⟨b, off, rfl⟩
  have r2 := (hr.imp (Q := (· < w.heap.size)) fun b hb _ => hb).below b2 fun _ _ hb => hb
  go_enter Tryz.func114, Tryz.ntmps114
  go_wp2_with fail
  generalize w.alloc (.cells #[.int .i64 0, .int .i64 0, .int .i64 0, .slice none 0 0] 111) = w2 at *
  have l1 : ((l.drop 8).take 8).length = 8 := by rw [List.length_take, List.length_drop]; omega
  have l2 : ((l.drop 16).take 8).length = 8 := by rw [List.length_take, List.length_drop]; omega
  have l3 : ((l.drop 24).take 4).length = 4 := by rw [List.length_take, List.length_drop]; omega
  have CS1 : ∀ wx, Below w2.heap.size w2 wx → Calls Tryz.prog 149 #[.slice (some ⟨b, off + 8, none⟩) 8 (c - 8)] wx fun e w' => e = .returned (.int .u64 (said ((l.drop 8).take 8) : Nat)) ∧ wx = w' :=
    fun wx hx => rsaid_at _ _ 8 _ _ wx ((r2.below hx fun _ hb _ => hb).part 8 8) l1 (by decide)
  have CS2 : ∀ wx, Below w2.heap.size w2 wx → Calls Tryz.prog 149 #[.slice (some ⟨b, off + 16, none⟩) 8 (c - 16)] wx fun e w' => e = .returned (.int .u64 (said ((l.drop 16).take 8) : Nat)) ∧ wx = w' :=
    fun wx hx => rsaid_at _ _ 8 _ _ wx ((r2.below hx fun _ hb _ => hb).part 16 8) l2 (by decide)
  have CS3 : ∀ wx, Below w2.heap.size w2 wx → Calls Tryz.prog 149 #[.slice (some ⟨b, off + 24, none⟩) 4 (c - 24)] wx fun e w' => e = .returned (.int .u64 (said ((l.drop 24).take 4) : Nat)) ∧ wx = w' :=
    fun wx hx => rsaid_at _ _ 4 _ _ wx ((r2.below hx fun _ hb _ => hb).part 24 4) l3 (by decide)
  clear l1 l2 l3 hr
  have hE : hEpoch l = said ((l.drop 8).take 8) := rfl
  have hS : hSeq l = said ((l.drop 16).take 8) := rfl
  have hN : hLen l = said ((l.drop 24).take 4) := rfl
  have zE : said ((l.drop 8).take 8) < 18446744073709551616 := by
    have := said_lt ((l.drop 8).take 8)
    rw [List.length_take, List.length_drop, Nat.min_eq_left (by omega)] at this
    omega
  have zS : said ((l.drop 16).take 8) < 18446744073709551616 := by
    have := said_lt ((l.drop 16).take 8)
    rw [List.length_take, List.length_drop, Nat.min_eq_left (by omega)] at this
    omega
  have zN : said ((l.drop 24).take 4) < 4294967296 := by
    have := said_lt ((l.drop 24).take 4)
    rw [List.length_take, List.length_drop, Nat.min_eq_left (by omega)] at this
    omega
  generalize said ((l.drop 8).take 8) = ep at *
  generalize said ((l.drop 16).take 8) = sq at *
  generalize said ((l.drop 24).take 4) = n at *
  have HE1 := hide (CS1 w2 (Below.refl _ _))
  have HE2 := hide (CS2 w2 (Below.refl _ _))
  have HE3 := hide (CS3 w2 (Below.refl _ _))
  have c20 : w2.cell? ⟨w.heap.size, 0, none⟩ = some (.int .i64 0) := B2.cell 0
  have c21 : w2.cell? ⟨w.heap.size, 1, none⟩ = some (.int .i64 0) := B2.cell 1
  have c22 : w2.cell? ⟨w.heap.size, 2, none⟩ = some (.int .i64 0) := B2.cell 2
  have c23 : w2.cell? ⟨w.heap.size, 3, none⟩ = some (.slice none 0 0) := B2.cell 3
  have f2 := B2.frozen
  have HC1 := hide CS1
  have HC2 := hide CS2
  clear CS1 CS2 CS3
  have U : IntKind.u64.wrap (28 + (n : Int) + 4) = 28 + (n : Int) + 4 := by rw [IntKind.wrap_u64]; omega
  have U2 : IntKind.u64.wrap (28 + (n : Int)) = 28 + (n : Int) := by rw [IntKind.wrap_u64]; omega
  by_cases hcond : n ≤ 32768 ∧ ep ≤ 1099511627776 ∧ sq ≤ 1099511627776 ∧ 32 + n ≤ l.length
  · obtain ⟨h1, h2, h3, h4⟩ := hcond
    have D1 : decide (32768 < (n : Int)) = false := decide_eq_false (by omega)
    have D2 : decide (1099511627776 < (ep : Int)) = false := decide_eq_false (by omega)
    have D3 : decide (1099511627776 < (sq : Int)) = false := decide_eq_false (by omega)
    have D4 : decide ((l.length : Int) < 28 + (n : Int) + 4) = false := decide_eq_false (by omega)
    go_upto_region 4 with (first | (go_at_call 149; (with_reducible refine Calls.mono HE1.out ?_); rintro e w' ⟨rfl, rfl⟩) | (go_at_call 149; (with_reducible refine Calls.mono HE2.out ?_); rintro e w' ⟨rfl, rfl⟩) | (go_at_call 149; (with_reducible refine Calls.mono HE3.out ?_); rintro e w' ⟨rfl, rfl⟩))
    have hdl : ((l.drop 28).take n).length = n := by rw [List.length_take, List.length_drop]; omega
    obtain ⟨x4, hx4⟩ : ∃ x, x = l[4]'(by omega) := ⟨_, rfl⟩
    have c4 : w2.cell? ⟨b, off + 4, none⟩ = some (.int .u8 (x4.toNat : Int)) := by
      obtain ⟨b', off', hA, _, hcc⟩ := r2 (by simp; omega)
      injection hA with hA
      injection hA with q1 q2 q3
      subst q1 q2
      rw [hcc 4 (by simp; omega), bs_get, hx4]
    have hbl : b < w2.heap.size := World.block_lt_of_cell? w2 _ c4
    have HX := hide hx4
    have r28 := r2.part 28 n
    have i0 : 4 < l.length := by omega
    have i1 : (4 : Int) < (l.length : Int) := by omega
    have i2 : (28 : Int) + (n : Int) ≤ (c : Int) := by omega
    have i3 : 28 + n ≤ c := by omega
    have i4 : (n : Int) ≤ 32768 := by omega
    have i6 : (28 : Int) ≤ 28 + (n : Int) := by omega
    have i7 : (0 : Int) ≤ 28 + (n : Int) := by omega
    have m1 : (16 : Int) ≤ (c : Int) := by omega
    have m2 : (24 : Int) ≤ (c : Int) := by omega
    have m3 : ¬ c = 8 := by omega
    have m4 : ¬ c = 16 := by omega
    have m5 : 16 ≤ c := by omega
    have m6 : 24 ≤ c := by omega
    have i8 : ¬ c = 28 := by omega
    have i9 : (28 + (n : Int)).toNat - 28 = n := by omega
    have j2 : (ep : Int) ≤ 1099511627776 := by omega
    have j3 : (sq : Int) ≤ 1099511627776 := by omega
    have j4 : IntKind.i64.wrap (ep : Int) = (ep : Int) := IntWalk.i64_in _ (by omega)
    have j5 : IntKind.i64.wrap (sq : Int) = (sq : Int) := IntWalk.i64_in _ (by omega)
    have j6 : IntKind.i64.wrap (x4.toNat : Int) = (x4.toNat : Int) := IntWalk.i64_in _ (by have := x4.isLt; omega)
    have j7 : IntKind.i64.wrap (28 + (n : Int)) = 28 + (n : Int) := IntWalk.i64_in _ (by omega)
    have R28 := hide r28
    have bA0 := (Below.refl w2.heap.size w2).alloc (Nat.le_refl _) (.cells #[.int .i64 0, .int .i64 0, .int .i64 0, .slice none 0 0] 111)
    have bB0 := (Below.refl w2.heap.size w2).alloc (Nat.le_refl _) (.cells #[] 5)
    have KA := hide (show Below w2.heap.size w2 (w2.alloc (.cells #[.int .i64 0, .int .i64 0, .int .i64 0, .slice none 0 0] 111)).drew from bA0.drew)
    have KB := hide (show Below w2.heap.size w2 (w2.alloc (.cells #[] 5)).drew from bB0.drew)
    have KAB := hide (show Below w2.heap.size w2 ((w2.alloc (.cells #[.int .i64 0, .int .i64 0, .int .i64 0, .slice none 0 0] 111)).alloc (.cells #[] 5)).drew from (bA0.alloc bA0.size _).drew)
    have KBA := hide (show Below w2.heap.size w2 ((w2.alloc (.cells #[] 5)).alloc (.cells #[.int .i64 0, .int .i64 0, .int .i64 0, .slice none 0 0] 111)).drew from (bB0.alloc bB0.size _).drew)
    have zA : (w2.alloc (.cells #[.int .i64 0, .int .i64 0, .int .i64 0, .slice none 0 0] 111)).heap.size = w2.heap.size + 1 := by simp
    have zB : (w2.alloc (.cells #[] 5)).heap.size = w2.heap.size + 1 := by simp
    have rB := RowB.of_blk (l := []) (Blk.new w2 5 #[]) (by simp)
    have OB := hide (show OwnB (w2.alloc (.cells #[] 5)).drew w2.heap.size (.slice (some ⟨w2.heap.size, 0, none⟩) 0 0) [] from rB.own (Nat.le_refl _))
    have OBA := hide (show OwnB ((w2.alloc (.cells #[] 5)).alloc (.cells #[.int .i64 0, .int .i64 0, .int .i64 0, .slice none 0 0] 111)).drew w2.heap.size (.slice (some ⟨w2.heap.size, 0, none⟩) 0 0) [] from (rB.alloc _).own (Nat.le_refl _))
    have oAB : OwnB ((w2.alloc (.cells #[.int .i64 0, .int .i64 0, .int .i64 0, .slice none 0 0] 111)).alloc (.cells #[] 5)).drew (w2.heap.size + 1) (.slice (some ⟨w2.heap.size + 1, 0, none⟩) 0 0) [] := by
      have rAB := RowB.of_blk (l := []) (Blk.new (w2.alloc (.cells #[.int .i64 0, .int .i64 0, .int .i64 0, .slice none 0 0] 111)) 5 #[]) (by simp)
      rw [zA] at rAB
      exact rAB.own (Nat.le_refl _)
    have OAB := hide oAB
    have FAB := hide (show Blk ((w2.alloc (.cells #[.int .i64 0, .int .i64 0, .int .i64 0, .slice none 0 0] 111)).alloc (.cells #[] 5)).drew w2.heap.size 111 #[.int .i64 0, .int .i64 0, .int .i64 0, .slice none 0 0] from (Blk.new w2 _ _).alloc _)
    have fBA : Blk ((w2.alloc (.cells #[] 5)).alloc (.cells #[.int .i64 0, .int .i64 0, .int .i64 0, .slice none 0 0] 111)).drew (w2.heap.size + 1) 111 #[.int .i64 0, .int .i64 0, .int .i64 0, .slice none 0 0] := by
      have := Blk.new (w2.alloc (.cells #[] 5)) 111 #[.int .i64 0, .int .i64 0, .int .i64 0, .slice none 0 0]
      rw [zB] at this
      exact this
    have FBA := hide fBA
    have fin : ∀ (wa w3 : World) (base : Nat) (v3 : Value), Below w2.heap.size w2 wa → w2.heap.size ≤ base → Below w2.heap.size wa w3 → OwnB w3 base v3 ([] ++ (l.drop 28).take n) →
        ∃ A3 c3, v3 = .slice A3 n c3 ∧ OwnB w3 base (.slice A3 n c3) ((l.drop 28).take n) ∧ Below w2.heap.size w2 w3 := by
      intro wa w3 base v3 ha hbase hw own
      rw [List.nil_append] at own
      obtain ⟨A3, c3, hv, _⟩ := own.form
      rw [hdl] at hv
      subst hv
      exact ⟨A3, c3, rfl, own, ha.trans hw⟩
    have HFIN := hide fin
    clear bA0 bB0 rB oAB fBA fin
    clear hx4 HE1 HE2 HE3 r28
    go_cut [6] from 46 to 64 (fun s6 wx => ∃ fb A3 c3, s6 = .pointer (some ⟨fb, 0, none⟩) ∧ Blk wx fb 111 #[.int .i64 (x4.toNat : Int), .int .i64 (ep : Int), .int .i64 (sq : Int), .slice A3 n c3] ∧ OwnB wx w2.heap.size (.slice A3 n c3) ((l.drop 28).take n) ∧ Below w2.heap.size w2 wx)
    case first =>
      refine wp_region_held_drew (S := fun w' => Below w2.heap.size w2 w') (by kernel_rfl) (Below.refl _ _).drew (fun hHeld => ?_)
      refine wpAnyH_take (i := 0) (oi := _) (v := ?_) rfl (by kernel_rfl) (by kernel_rfl) (by kernel_rfl) (fun _ _ _ h => h) (Or.inl ⟨by rfl, fun wx hSw => ?_⟩) hHeld ?_
      rotate_left
      · go_simp
        with_reducible rfl
      simp only [Act.put, List.setIfInBounds_toArray, List.set_cons_zero, List.set_cons_succ]
      refine wpAnyH_take (i := 1) (oi := _) (v := ?_) rfl (by kernel_rfl) (by kernel_rfl) (by kernel_rfl) (fun _ _ _ h => h) (Or.inl ⟨by rfl, fun wx hSw => ?_⟩) hHeld ?_
      rotate_left
      · go_simp
        with_reducible rfl
      simp only [Act.put, List.setIfInBounds_toArray, List.set_cons_zero, List.set_cons_succ]
      refine wpAnyH_take (i := 2) (oi := _) (v := ?_) rfl (by kernel_rfl) (by kernel_rfl) (by kernel_rfl) (fun _ _ _ h => h) (Or.inl ⟨by rfl, fun wx hSw => ?_⟩) hHeld ?_
      rotate_left
      · have k4 := (hSw.cell hbl).trans c4
        go_simp
        with_reducible rfl
      simp only [Act.put, List.setIfInBounds_toArray, List.set_cons_zero, List.set_cons_succ]
      refine wpAnyH_take (i := 3) (oi := _) (v := ?_) rfl (by kernel_rfl) (by kernel_rfl) (by kernel_rfl) (fun _ _ _ h => h) (Or.inl ⟨by rfl, fun wx hSw => ?_⟩) hHeld ?_
      rotate_left
      · go_simp
        with_reducible rfl
      simp only [Act.put, List.setIfInBounds_toArray, List.set_cons_zero, List.set_cons_succ]
      refine wpAnyH_take (i := 4) (oi := _) (v := ?_) rfl (by kernel_rfl) (by kernel_rfl) (by kernel_rfl) (fun _ _ _ h => h) (Or.inl ⟨by rfl, fun wx hSw => ?_⟩) hHeld ?_
      rotate_left
      · go_simp
        with_reducible rfl
      simp only [Act.put, List.setIfInBounds_toArray, List.set_cons_zero, List.set_cons_succ]
      refine wpAnyH_take (i := 5) (oi := _) (v := ?_) rfl (by kernel_rfl) (by kernel_rfl) (by kernel_rfl) (fun _ _ _ h => h) (Or.inl ⟨by rfl, fun wx hSw => ?_⟩) hHeld ?_
      rotate_left
      · go_simp
        with_reducible rfl
      simp only [Act.put, List.setIfInBounds_toArray, List.set_cons_zero, List.set_cons_succ]
      refine wpAnyH_take_still (i := 6) (oi := _) (v := .int .u64 (ep : Int)) rfl (by kernel_rfl) (by kernel_rfl) (by kernel_rfl) (fun _ _ _ h => h) (Or.inl ⟨by rfl, fun wx hSw => ?_⟩) hHeld ?_
      · go_simp
        refine (HC1.out wx hSw).mono ?_
        rintro e w' ⟨rfl, rfl⟩
        exact ⟨rfl, rfl⟩
      simp only [Act.put, List.setIfInBounds_toArray, List.set_cons_zero, List.set_cons_succ]
      refine wpAnyH_take (i := 7) (oi := _) (v := ?_) rfl (by kernel_rfl) (by kernel_rfl) (by kernel_rfl) (fun _ _ _ h => h) (Or.inl ⟨by rfl, fun wx hSw => ?_⟩) hHeld ?_
      rotate_left
      · go_simp
        with_reducible rfl
      simp only [Act.put, List.setIfInBounds_toArray, List.set_cons_zero, List.set_cons_succ]
      refine wpAnyH_take (i := 8) (oi := _) (v := ?_) rfl (by kernel_rfl) (by kernel_rfl) (by kernel_rfl) (fun _ _ _ h => h) (Or.inl ⟨by rfl, fun wx hSw => ?_⟩) hHeld ?_
      rotate_left
      · go_simp
        with_reducible rfl
      simp only [Act.put, List.setIfInBounds_toArray, List.set_cons_zero, List.set_cons_succ]
      refine wpAnyH_take (i := 9) (oi := _) (v := ?_) rfl (by kernel_rfl) (by kernel_rfl) (by kernel_rfl) (fun _ _ _ h => h) (Or.inl ⟨by rfl, fun wx hSw => ?_⟩) hHeld ?_
      rotate_left
      · go_simp
        with_reducible rfl
      simp only [Act.put, List.setIfInBounds_toArray, List.set_cons_zero, List.set_cons_succ]
      refine wpAnyH_take_still (i := 10) (oi := _) (v := .int .u64 (sq : Int)) rfl (by kernel_rfl) (by kernel_rfl) (by kernel_rfl) (fun _ _ _ h => h) (Or.inl ⟨by rfl, fun wx hSw => ?_⟩) hHeld ?_
      · go_simp
        refine (HC2.out wx hSw).mono ?_
        rintro e w' ⟨rfl, rfl⟩
        exact ⟨rfl, rfl⟩
      simp only [Act.put, List.setIfInBounds_toArray, List.set_cons_zero, List.set_cons_succ]
      refine wpAnyH_take (i := 11) (oi := _) (v := ?_) rfl (by kernel_rfl) (by kernel_rfl) (by kernel_rfl) (fun _ _ _ h => h) (Or.inl ⟨by rfl, fun wx hSw => ?_⟩) hHeld ?_
      rotate_left
      · go_simp
        with_reducible rfl
      simp only [Act.put, List.setIfInBounds_toArray, List.set_cons_zero, List.set_cons_succ]
      refine wpAnyH_take (i := 13) (oi := _) (v := ?_) rfl (by kernel_rfl) (by kernel_rfl) (by kernel_rfl) (fun _ _ _ h => h) (Or.inl ⟨by rfl, fun wx hSw => ?_⟩) hHeld ?_
      rotate_left
      · go_simp
        with_reducible rfl
      simp only [Act.put, List.setIfInBounds_toArray, List.set_cons_zero, List.set_cons_succ]
      refine wpAnyH_take (i := 14) (oi := _) (v := ?_) rfl (by kernel_rfl) (by kernel_rfl) (by kernel_rfl) (fun _ _ _ h => h) (Or.inl ⟨by rfl, fun wx hSw => ?_⟩) hHeld ?_
      rotate_left
      · go_simp
        with_reducible rfl
      simp only [Act.put, List.setIfInBounds_toArray, List.set_cons_zero, List.set_cons_succ]
      refine wpAnyH_take (i := 15) (oi := _) (v := ?_) rfl (by kernel_rfl) (by kernel_rfl) (by kernel_rfl) (fun _ _ _ h => h) (Or.inl ⟨by rfl, fun wx hSw => ?_⟩) hHeld ?_
      rotate_left
      · go_simp
        with_reducible rfl
      simp only [Act.put, List.setIfInBounds_toArray, List.set_cons_zero, List.set_cons_succ]
      refine wpAnyH_take (i := 16) (oi := _) (v := ?_) rfl (by kernel_rfl) (by kernel_rfl) (by kernel_rfl) (fun _ _ _ h => h) (Or.inl ⟨by rfl, fun wx hSw => ?_⟩) hHeld ?_
      rotate_left
      · go_simp
        with_reducible rfl
      simp only [Act.put, List.setIfInBounds_toArray, List.set_cons_zero, List.set_cons_succ]
      refine wpAnyH_ready (rs := [12, 19]) (by kernel_rfl) (by simp) ?_
      refine AllReadyH.cons (o := _) rfl (fun K hK => ?_) (AllReadyH.cons (o := _) rfl (fun K hK => ?_) AllReadyH.nil)
      · go_simp
        refine hK.out _ _ KB.out (fun _ => ?_)
        clear hK K
        try simp only [Act.put, List.setIfInBounds_toArray, List.set_cons_zero, List.set_cons_succ]
        refine wpAnyH_ready (rs := [17, 19]) (by kernel_rfl) (by simp) ?_
        refine AllReadyH.cons (o := _) rfl (fun K hK => ?_) (AllReadyH.cons (o := _) rfl (fun K hK => ?_) AllReadyH.nil)
        · refine step_append_u8 (by rfl) _ _ (by rfl) w2.heap.size _ [] (by rfl) OB.out (· < w.heap.size) (some ⟨b, off + 28, none⟩) n (c - 28) ((l.drop 28).take n) (by rfl) hdl (R28.out.below KB.out fun _ hb _ => hb) (by simp; omega) (by first | exact KB.out.size | simp) ?_
          intro v3 w3 own3 g3 hx3
          obtain ⟨A3, c3, rfl, own4, b3⟩ := HFIN.out _ _ _ _ KB.out (by omega) (below_of_only g3 (by first | exact Nat.le_refl _ | exact Nat.le_succ _) KB.out.size) own3
          refine hK.out _ _ b3 (fun _ => ?_)
          clear hK K own3 g3
          try simp only [Act.put, List.setIfInBounds_toArray, List.set_cons_zero, List.set_cons_succ]
          refine wpAnyH_take (i := 18) (oi := _) (v := ?_) rfl (by kernel_rfl) (by kernel_rfl) (by kernel_rfl) (fun _ _ _ h => h) (Or.inl ⟨by rfl, fun wx hSw => ?_⟩) (by assumption) ?_
          rotate_left
          · go_simp
            with_reducible rfl
          simp only [Act.put, List.setIfInBounds_toArray, List.set_cons_zero, List.set_cons_succ]
          refine wpAnyH_ready (rs := [19]) (by kernel_rfl) (by simp) ?_
          refine AllReadyH.cons (o := _) rfl (fun K hK => ?_) AllReadyH.nil
          go_simp
          refine hK.out _ _ (b3.alloc b3.size _) (fun _ => ?_)
          clear hK K
          try simp only [Act.put, List.setIfInBounds_toArray, List.set_cons_zero, List.set_cons_succ]
          refine wpAnyH_ready (rs := [20]) (by kernel_rfl) (by simp) ?_
          refine AllReadyH.cons (o := _) rfl (fun K hK => ?_) AllReadyH.nil
          go_simp
          refine hK.out _ _ (b3.alloc b3.size _) (fun _ => ?_)
          clear hK K
          refine wpAnyH_done (by kernel_rfl) ?_ _
          go_wp2_with fail
          go_meet
          exact ⟨w3.heap.size, A3, c3, rfl, Blk.new _ _ _, OwnB.alloc own4 _, b3.alloc b3.size _⟩
        · go_simp
          refine hK.out _ _ KBA.out (fun _ => ?_)
          clear hK K
          try simp only [Act.put, List.setIfInBounds_toArray, List.set_cons_zero, List.set_cons_succ]
          refine wpAnyH_ready (rs := [17]) (by kernel_rfl) (by simp) ?_
          refine AllReadyH.cons (o := _) rfl (fun K hK => ?_) AllReadyH.nil
          refine step_append_u8 (by rfl) _ _ (by rfl) w2.heap.size _ [] (by rfl) OBA.out (· < w.heap.size) (some ⟨b, off + 28, none⟩) n (c - 28) ((l.drop 28).take n) (by rfl) hdl (R28.out.below KBA.out fun _ hb _ => hb) (by simp; omega) (by first | exact KBA.out.size | simp) ?_
          intro v3 w3 own3 g3 hx3
          obtain ⟨A3, c3, rfl, own4, b3⟩ := HFIN.out _ _ _ _ KBA.out (by omega) (below_of_only g3 (by first | exact Nat.le_refl _ | exact Nat.le_succ _) KBA.out.size) own3
          refine hK.out _ _ b3 (fun _ => ?_)
          have BN := FBA.out.grown g3 (by simp [Value.ownBlock])
          have n0 : w3.cell? ⟨w2.heap.size + 1, 0, none⟩ = some (.int .i64 0) := BN.cell 0
          have n1 : w3.cell? ⟨w2.heap.size + 1, 1, none⟩ = some (.int .i64 0) := BN.cell 1
          have n2 : w3.cell? ⟨w2.heap.size + 1, 2, none⟩ = some (.int .i64 0) := BN.cell 2
          have n3 : w3.cell? ⟨w2.heap.size + 1, 3, none⟩ = some (.slice none 0 0) := BN.cell 3
          have nf := BN.frozen
          clear hK K own3 g3
          try simp only [Act.put, List.setIfInBounds_toArray, List.set_cons_zero, List.set_cons_succ]
          refine wpAnyH_take (i := 18) (oi := _) (v := ?_) rfl (by kernel_rfl) (by kernel_rfl) (by kernel_rfl) (fun _ _ _ h => h) (Or.inl ⟨by rfl, fun wx hSw => ?_⟩) (by assumption) ?_
          rotate_left
          · go_simp
            with_reducible rfl
          simp only [Act.put, List.setIfInBounds_toArray, List.set_cons_zero, List.set_cons_succ]
          refine wpAnyH_ready (rs := [20]) (by kernel_rfl) (by simp) ?_
          refine AllReadyH.cons (o := _) rfl (fun K hK => ?_) AllReadyH.nil
          go_simp
          refine hK.out _ _ (below_setFr b3 (w2.heap.size + 1) (by omega) (x4.toNat : Int) (ep : Int) (sq : Int) (.slice A3 n c3)) (fun _ => ?_)
          clear hK K
          refine wpAnyH_done (by kernel_rfl) ?_ _
          go_wp2_with fail
          go_meet
          exact ⟨w2.heap.size + 1, A3, c3, rfl, BN.setFr (x4.toNat : Int) (ep : Int) (sq : Int) (.slice A3 n c3), (own4.kept (only_setFr w3 (w2.heap.size + 1) (x4.toNat : Int) (ep : Int) (sq : Int) (.slice A3 n c3)) (hx3.elim (fun e => .inr (by rw [e]; simp [Value.ownBlock])) (fun e => .inr (by rw [e]; first | (simp; done) | (simp; omega))))), below_setFr b3 (w2.heap.size + 1) (by omega) (x4.toNat : Int) (ep : Int) (sq : Int) (.slice A3 n c3)⟩
      · go_simp
        refine hK.out _ _ KA.out (fun _ => ?_)
        clear hK K
        try simp only [Act.put, List.setIfInBounds_toArray, List.set_cons_zero, List.set_cons_succ]
        refine wpAnyH_ready (rs := [12]) (by kernel_rfl) (by simp) ?_
        refine AllReadyH.cons (o := _) rfl (fun K hK => ?_) AllReadyH.nil
        go_simp
        refine hK.out _ _ KAB.out (fun _ => ?_)
        clear hK K
        try simp only [Act.put, List.setIfInBounds_toArray, List.set_cons_zero, List.set_cons_succ]
        refine wpAnyH_ready (rs := [17]) (by kernel_rfl) (by simp) ?_
        refine AllReadyH.cons (o := _) rfl (fun K hK => ?_) AllReadyH.nil
        refine step_append_u8 (by rfl) _ _ (by rfl) (w2.heap.size + 1) _ [] (by rfl) OAB.out (· < w.heap.size) (some ⟨b, off + 28, none⟩) n (c - 28) ((l.drop 28).take n) (by rfl) hdl (R28.out.below KAB.out fun _ hb _ => hb) (by simp; omega) (by first | exact KAB.out.size | simp) ?_
        intro v3 w3 own3 g3 hx3
        obtain ⟨A3, c3, rfl, own4, b3⟩ := HFIN.out _ _ _ _ KAB.out (by omega) (below_of_only g3 (by first | exact Nat.le_refl _ | exact Nat.le_succ _) KAB.out.size) own3
        refine hK.out _ _ b3 (fun _ => ?_)
        have BN := FAB.out.grown g3 (by simp [Value.ownBlock])
        have n0 : w3.cell? ⟨w2.heap.size, 0, none⟩ = some (.int .i64 0) := BN.cell 0
        have n1 : w3.cell? ⟨w2.heap.size, 1, none⟩ = some (.int .i64 0) := BN.cell 1
        have n2 : w3.cell? ⟨w2.heap.size, 2, none⟩ = some (.int .i64 0) := BN.cell 2
        have n3 : w3.cell? ⟨w2.heap.size, 3, none⟩ = some (.slice none 0 0) := BN.cell 3
        have nf := BN.frozen
        clear hK K own3 g3
        try simp only [Act.put, List.setIfInBounds_toArray, List.set_cons_zero, List.set_cons_succ]
        refine wpAnyH_take (i := 18) (oi := _) (v := ?_) rfl (by kernel_rfl) (by kernel_rfl) (by kernel_rfl) (fun _ _ _ h => h) (Or.inl ⟨by rfl, fun wx hSw => ?_⟩) (by assumption) ?_
        rotate_left
        · go_simp
          with_reducible rfl
        simp only [Act.put, List.setIfInBounds_toArray, List.set_cons_zero, List.set_cons_succ]
        refine wpAnyH_ready (rs := [20]) (by kernel_rfl) (by simp) ?_
        refine AllReadyH.cons (o := _) rfl (fun K hK => ?_) AllReadyH.nil
        go_simp
        refine hK.out _ _ (below_setFr b3 (w2.heap.size) (by omega) (x4.toNat : Int) (ep : Int) (sq : Int) (.slice A3 n c3)) (fun _ => ?_)
        clear hK K
        refine wpAnyH_done (by kernel_rfl) ?_ _
        go_wp2_with fail
        go_meet
        exact ⟨w2.heap.size, A3, c3, rfl, BN.setFr (x4.toNat : Int) (ep : Int) (sq : Int) (.slice A3 n c3), ((own4.kept (only_setFr w3 (w2.heap.size) (x4.toNat : Int) (ep : Int) (sq : Int) (.slice A3 n c3)) (hx3.elim (fun e => .inr (by rw [e]; simp [Value.ownBlock])) (fun e => .inr (by rw [e]; first | (simp; done) | (simp; omega))))).mono (Nat.le_succ _)), below_setFr b3 (w2.heap.size) (by omega) (x4.toNat : Int) (ep : Int) (sq : Int) (.slice A3 n c3)⟩
    case rest =>
      clear KA KB KAB KBA OB OBA OAB FAB FBA HFIN zA zB
      obtain ⟨fb, A3, c3, rfl, BF, own4, b4⟩ := hcut
      clear c20 c21 c22 c23 f2 c4 D D1 D2 D3 D4 i0 i1 i2 i6 i7 i8 i9 j2 j3 j4 j5 j6 j7 m1 m2 m3 m4 m5 m6 HC1 HC2 U U2 R28
      have hfl := BF.lt
      have hw2 := B2.lt
      have e0 : wc.cell? ⟨fb, 0, none⟩ = some (.int .i64 (x4.toNat : Int)) := BF.cell 0
      have e1 : wc.cell? ⟨fb, 1, none⟩ = some (.int .i64 (ep : Int)) := BF.cell 1
      have e2 : wc.cell? ⟨fb, 2, none⟩ = some (.int .i64 (sq : Int)) := BF.cell 2
      have e3 : wc.cell? ⟨fb, 3, none⟩ = some (.slice A3 n c3) := BF.cell 3
      go_wp2_with fail
      have own4' : OwnB wc w2.heap.size (.slice A3 ((l.drop 28).take n).length c3) ((l.drop 28).take n) := by rw [hdl]; exact own4
      have RG := rput_good x4.toNat ep sq A3 c3 ((l.drop 28).take n) _ wc (by have := x4.isLt; omega) h2 h3 (by rw [hdl]; exact h1) (own4'.rd (P := fun _ => True) fun _ _ _ _ => trivial)
      rw [hdl] at RG
      refine RG.mono ?_
      clear own4' e0 e1 e2 e3 RG
      have hfr : (frameBytes x4.toNat ep sq ((l.drop 28).take n)).length = 512 * sectors n := by rw [frameBytes_length, hdl]
      rintro r w5 ⟨⟨v5, rfl, own5f⟩, b5⟩
      obtain ⟨A5, c5, rfl, hc5⟩ := own5f.form
      have r5f : Rd w5 (fun _ => True) A5 (bs (frameBytes x4.toNat ep sq ((l.drop 28).take n))) := own5f.rd fun _ _ _ _ => trivial
      rw [hfr] at hc5 ⊢
      have BF5 := BF.below b5 hfl
      have own5 := own4.below b5
      have b5' := b4.trans (b5.mono b4.size)
      have B5 := B2.below b5' hw2
      have b5w := b2.trans (b5'.mono b2.size)
      have r5 := r2.below b5' fun b hb _ => hb
      clear BF own4 b4 b5 B2 b2 r2 own5f
      have hfields : hKind l = x4.toNat := by
        unfold hKind
        rw [List.getD_eq_getElem?_getD, List.getElem?_eq_getElem (by omega), HX.out]
        rfl
      have hdata : hData l = (l.drop 28).take n := by unfold hData; rw [hN]
      have k1 : ∀ nq, (convert 30 9 (.slice A5 (512 * sectors n) c5)).run Tryz.prog (w5.drewN nq) = .ok (.string (str (frameBytes x4.toNat ep sq ((l.drop 28).take n)))) (w5.drewN nq) := fun nq => by
        have := run_str (w5.drewN nq) A5 c5 (frameBytes x4.toNat ep sq ((l.drop 28).take n)) _ (r5f.drewN nq)
        rwa [hfr] at this
      have k2 : 512 * sectors n ≤ l.length → ∀ nq, (convert 30 9 (.slice (some ⟨b, off, none⟩) (512 * sectors n) c)).run Tryz.prog (w5.drewN nq) = .ok (.string (str (l.take (512 * sectors n)))) (w5.drewN nq) := fun hle nq => by
        have ht := (r5.take (512 * sectors n)).drewN nq
        rw [← bs_take] at ht
        have := run_str (w5.drewN nq) (some ⟨b, off, none⟩) c (l.take (512 * sectors n)) _ ht
        rwa [List.length_take, Nat.min_eq_left hle] at this
      have k3 := str_eq (frameBytes x4.toNat ep sq ((l.drop 28).take n)) (l.take (512 * sectors n))
      have hpre : frameBytes x4.toNat ep sq ((l.drop 28).take n) <+: l ↔ frameBytes x4.toNat ep sq ((l.drop 28).take n) = l.take (512 * sectors n) := by rw [List.prefix_iff_eq_take, hfr]
      clear r5 r5f
      generalize hFB : frameBytes x4.toNat ep sq ((l.drop 28).take n) = FB at *
      generalize hTK : l.take (512 * sectors n) = TK at *
      have HFB := hide hFB
      have HPR := hide hpre
      clear hFB hTK hpre
      have hs0 : sectors n ≤ 66 := by unfold sectors; omega
      have hs1 : n + 32 ≤ 512 * sectors n := by unfold sectors; omega
      by_cases hlen : 512 * sectors n ≤ l.length
      · have D5 : decide ((l.length : Int) < 512 * (sectors n : Int)) = false := decide_eq_false (by omega)
        have k2' := k2 hlen
        have p1 : (512 : Int) * (sectors n : Int) ≤ (c : Int) := by omega
        have p2 : 512 * sectors n ≤ c := by omega
        have p3 : (0 : Int) ≤ 512 * (sectors n : Int) := by omega
        clear k2
        by_cases hp : FB = TK
        · rw [decide_eq_true hp] at k3
          have hyes : isFrame l := ⟨h, by rw [hN]; exact h1, by rw [hE]; exact h2, by rw [hS]; exact h3, by rw [hE, hS, hfields, hdata, HFB.out]; exact HPR.out.2 hp, by rw [hN]; exact hlen⟩
          have HY := hide hyes
          have HK := hide hfields
          have HD := hide hdata
          clear hyes hp hfields hdata
          go_wp2_with fail
          go_quiet (fail)
          have B6 := B5.drewN nq
          have BF6 := BF5.drewN nq
          have own6 : OwnB (w5.drewN nq) w2.heap.size (.slice A3 n c3) ((l.drop 28).take n) := own5
          have b6w := b5w.trans (drewN_below w.heap.size _ nq)
          generalize w5.drewN nq = w6 at *
          have d0 : w6.cell? ⟨w.heap.size, 0, none⟩ = some (.int .i64 0) := B6.cell 0
          have d1 : w6.cell? ⟨w.heap.size, 1, none⟩ = some (.int .i64 0) := B6.cell 1
          have d2 : w6.cell? ⟨w.heap.size, 2, none⟩ = some (.int .i64 0) := B6.cell 2
          have d3 : w6.cell? ⟨w.heap.size, 3, none⟩ = some (.slice none 0 0) := B6.cell 3
          have f5 := B6.frozen
          have e0 : w6.cell? ⟨fb, 0, none⟩ = some (.int .i64 (x4.toNat : Int)) := BF6.cell 0
          have e1 : w6.cell? ⟨fb, 1, none⟩ = some (.int .i64 (ep : Int)) := BF6.cell 1
          have e2 : w6.cell? ⟨fb, 2, none⟩ = some (.int .i64 (sq : Int)) := BF6.cell 2
          have e3 : w6.cell? ⟨fb, 3, none⟩ = some (.slice A3 n c3) := BF6.cell 3
          go_wp2
          have own7 := own6.kept (only_setFr w6 w.heap.size (x4.toNat : Int) (ep : Int) (sq : Int) (.slice A3 n c3)) (.inr fun e => by have := (own6.lt _ e).1; omega)
          refine bodyPost_ret (v := .tuple #[.agg #[.int .i64 (x4.toNat : Int), .int .i64 (ep : Int), .int .i64 (sq : Int), .slice A3 n c3], .int .i64 (sectors n : Nat), .int .i64 0]) ?_ rfl
            ⟨.inl ⟨HY.out, .slice A3 n c3, by rw [HK.out, hE, hS, hN], by rw [HD.out]; exact own7.mono (Nat.le_of_lt hw2)⟩, below_setFr b6w w.heap.size (Nat.le_refl _) _ _ _ _⟩
          exact results_cell3 (p := 2) (u := 3) (v := 4) rfl _ _ w.heap.size _ _ rfl (B6.setFr _ _ _ _) Tryz.underlying111 rfl frame_size
        · rw [decide_eq_false hp] at k3
          have hno : ¬ isFrame l := by
            intro ⟨_, _, _, _, i5, _⟩
            rw [hE, hS, hfields, hdata, HFB.out] at i5
            exact hp (HPR.out.1 i5)
          have HY := hide hno
          clear hno hp hfields hdata
          go_wp2_with fail
          go_quiet (fail)
          have B6 := B5.drewN nq
          have b6w := b5w.trans (drewN_below w.heap.size _ nq)
          generalize w5.drewN nq = w6 at *
          have d0 : w6.cell? ⟨w.heap.size, 0, none⟩ = some (.int .i64 0) := B6.cell 0
          have d1 : w6.cell? ⟨w.heap.size, 1, none⟩ = some (.int .i64 0) := B6.cell 1
          have d2 : w6.cell? ⟨w.heap.size, 2, none⟩ = some (.int .i64 0) := B6.cell 2
          have d3 : w6.cell? ⟨w.heap.size, 3, none⟩ = some (.slice none 0 0) := B6.cell 3
          have f5 := B6.frozen
          go_wp2
          refine bodyPost_ret (v := .tuple #[.agg #[.int .i64 0, .int .i64 0, .int .i64 0, .slice none 0 0], .int .i64 0, .int .i64 4]) ?_ rfl ⟨.inr ⟨HY.out, rfl⟩, below_setFr b6w w.heap.size (Nat.le_refl _) 0 0 0 (.slice none 0 0)⟩
          exact results_cell3 (p := 2) (u := 3) (v := 4) rfl _ _ w.heap.size _ _ rfl (B6.setFr 0 0 0 (.slice none 0 0)) Tryz.underlying111 rfl frame_size
      · have D5 : decide ((l.length : Int) < 512 * (sectors n : Int)) = true := decide_eq_true (by omega)
        have hno : ¬ isFrame l := by
          intro ⟨_, _, _, _, _, i6⟩
          rw [hN] at i6
          exact hlen i6
        have HY := hide hno
        clear hno hlen hfields hdata k1 k2 k3
        go_wp2_with fail
        go_quiet (fail)
        have B6 := B5.drewN nq
        have b6w := b5w.trans (drewN_below w.heap.size _ nq)
        generalize w5.drewN nq = w6 at *
        have d0 : w6.cell? ⟨w.heap.size, 0, none⟩ = some (.int .i64 0) := B6.cell 0
        have d1 : w6.cell? ⟨w.heap.size, 1, none⟩ = some (.int .i64 0) := B6.cell 1
        have d2 : w6.cell? ⟨w.heap.size, 2, none⟩ = some (.int .i64 0) := B6.cell 2
        have d3 : w6.cell? ⟨w.heap.size, 3, none⟩ = some (.slice none 0 0) := B6.cell 3
        have f5 := B6.frozen
        go_wp2
        refine bodyPost_ret (v := .tuple #[.agg #[.int .i64 0, .int .i64 0, .int .i64 0, .slice none 0 0], .int .i64 0, .int .i64 4]) ?_ rfl ⟨.inr ⟨HY.out, rfl⟩, below_setFr b6w w.heap.size (Nat.le_refl _) 0 0 0 (.slice none 0 0)⟩
        exact results_cell3 (p := 2) (u := 3) (v := 4) rfl _ _ w.heap.size _ _ rfl (B6.setFr 0 0 0 (.slice none 0 0)) Tryz.underlying111 rfl frame_size
  · have hni : ¬ isFrame l := by
      intro ⟨_, i2, i3, i4, _, i6⟩
      rw [hN] at i2 i6
      rw [hE] at i3
      rw [hS] at i4
      refine hcond ⟨i2, i3, i4, ?_⟩
      unfold sectors at i6
      omega
    have HI := hide hni
    clear hni HC1 HC2
    by_cases h2 : ep ≤ 1099511627776
    · have D2 : decide (1099511627776 < (ep : Int)) = false := decide_eq_false (by omega)
      by_cases h3 : sq ≤ 1099511627776
      · have D3 : decide (1099511627776 < (sq : Int)) = false := decide_eq_false (by omega)
        by_cases h1 : n ≤ 32768
        · have D1 : decide (32768 < (n : Int)) = false := decide_eq_false (by omega)
          have D4 : decide ((l.length : Int) < 28 + (n : Int) + 4) = true := decide_eq_true (by omega)
          clear hcond
          go_wp2_with (first | (go_at_call 149; (with_reducible refine Calls.mono HE1.out ?_); rintro e w' ⟨rfl, rfl⟩) | (go_at_call 149; (with_reducible refine Calls.mono HE2.out ?_); rintro e w' ⟨rfl, rfl⟩) | (go_at_call 149; (with_reducible refine Calls.mono HE3.out ?_); rintro e w' ⟨rfl, rfl⟩))
          refine bodyPost_ret (v := .tuple #[.agg #[.int .i64 0, .int .i64 0, .int .i64 0, .slice none 0 0], .int .i64 0, .int .i64 4]) ?_ rfl ⟨.inr ⟨HI.out, rfl⟩, below_setFr b2 w.heap.size (Nat.le_refl _) 0 0 0 (.slice none 0 0)⟩
          exact results_cell3 (p := 2) (u := 3) (v := 4) rfl _ _ w.heap.size _ _ rfl (B2.setFr 0 0 0 (.slice none 0 0)) Tryz.underlying111 rfl frame_size
        · have D1 : decide (32768 < (n : Int)) = true := decide_eq_true (by omega)
          clear hcond
          go_wp2_with (first | (go_at_call 149; (with_reducible refine Calls.mono HE1.out ?_); rintro e w' ⟨rfl, rfl⟩) | (go_at_call 149; (with_reducible refine Calls.mono HE2.out ?_); rintro e w' ⟨rfl, rfl⟩) | (go_at_call 149; (with_reducible refine Calls.mono HE3.out ?_); rintro e w' ⟨rfl, rfl⟩))
          refine bodyPost_ret (v := .tuple #[.agg #[.int .i64 0, .int .i64 0, .int .i64 0, .slice none 0 0], .int .i64 0, .int .i64 4]) ?_ rfl ⟨.inr ⟨HI.out, rfl⟩, below_setFr b2 w.heap.size (Nat.le_refl _) 0 0 0 (.slice none 0 0)⟩
          exact results_cell3 (p := 2) (u := 3) (v := 4) rfl _ _ w.heap.size _ _ rfl (B2.setFr 0 0 0 (.slice none 0 0)) Tryz.underlying111 rfl frame_size
      · have D3 : decide (1099511627776 < (sq : Int)) = true := decide_eq_true (by omega)
        clear hcond
        go_wp2_with (first | (go_at_call 149; (with_reducible refine Calls.mono HE1.out ?_); rintro e w' ⟨rfl, rfl⟩) | (go_at_call 149; (with_reducible refine Calls.mono HE2.out ?_); rintro e w' ⟨rfl, rfl⟩) | (go_at_call 149; (with_reducible refine Calls.mono HE3.out ?_); rintro e w' ⟨rfl, rfl⟩))
        refine bodyPost_ret (v := .tuple #[.agg #[.int .i64 0, .int .i64 0, .int .i64 0, .slice none 0 0], .int .i64 0, .int .i64 4]) ?_ rfl ⟨.inr ⟨HI.out, rfl⟩, below_setFr b2 w.heap.size (Nat.le_refl _) 0 0 0 (.slice none 0 0)⟩
        exact results_cell3 (p := 2) (u := 3) (v := 4) rfl _ _ w.heap.size _ _ rfl (B2.setFr 0 0 0 (.slice none 0 0)) Tryz.underlying111 rfl frame_size
    · have D2 : decide (1099511627776 < (ep : Int)) = true := decide_eq_true (by omega)
      clear hcond
      go_wp2_with (first | (go_at_call 149; (with_reducible refine Calls.mono HE1.out ?_); rintro e w' ⟨rfl, rfl⟩) | (go_at_call 149; (with_reducible refine Calls.mono HE2.out ?_); rintro e w' ⟨rfl, rfl⟩) | (go_at_call 149; (with_reducible refine Calls.mono HE3.out ?_); rintro e w' ⟨rfl, rfl⟩))
      refine bodyPost_ret (v := .tuple #[.agg #[.int .i64 0, .int .i64 0, .int .i64 0, .slice none 0 0], .int .i64 0, .int .i64 4]) ?_ rfl ⟨.inr ⟨HI.out, rfl⟩, below_setFr b2 w.heap.size (Nat.le_refl _) 0 0 0 (.slice none 0 0)⟩
      exact results_cell3 (p := 2) (u := 3) (v := 4) rfl _ _ w.heap.size _ _ rfl (B2.setFr 0 0 0 (.slice none 0 0)) Tryz.underlying111 rfl frame_size
end Go.Proofs.YtdkcjmpikmnedaaGreat
