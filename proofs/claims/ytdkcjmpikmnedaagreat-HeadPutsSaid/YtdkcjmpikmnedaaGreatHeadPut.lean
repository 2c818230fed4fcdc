/- The walks through head.numbers and head.Put. -/
import Derived.Test.YtdkcjmpikmnedaaGreatHead
import Derived.Test.YtdkcjmpikmnedaaGreatSink
import Derived.Deep.RegionHeld3
import Derived.Deep.DrawnRows
namespace Go.Proofs.YtdkcjmpikmnedaaGreat
open Go.RowKit
attribute [local go_sem ↓] Go.wp_at_zero Go.wp_at_succ
set_option linter.unusedSimpArgs false

/-- Where a head's numbers stand. -/
abbrev numPtrs (b : Nat) : Array Value := #[.pointer (some ⟨b, 0, none⟩), .pointer (some ⟨b, 1, none⟩), .pointer (some ⟨b, 2, none⟩), .pointer (some ⟨b, 3, none⟩), .pointer (some ⟨b, 4, none⟩), .pointer (some ⟨b, 6, none⟩), .pointer (some ⟨b, 7, none⟩), .pointer (some ⟨b, 8, none⟩)]
set_option maxRecDepth 100000 in
set_option maxHeartbeats 800000 in
theorem numbers_any (b : Nat) (w : World) :
    Calls Tryz.prog 70 #[.pointer (some ⟨b, 0, none⟩)] w fun e w' => e = .returned (.agg (numPtrs b)) ∧ Below w.heap.size w w' := by
  have b1 : Below w.heap.size w (w.alloc (.cells #[.pointer none, .pointer none, .pointer none, .pointer none, .pointer none, .pointer none, .pointer none, .pointer none] 113)) := (Below.refl _ _).alloc (Nat.le_refl _) _
  have B1 := Blk.new w 113 #[.pointer none, .pointer none, .pointer none, .pointer none, .pointer none, .pointer none, .pointer none, .pointer none]
  go_enter Tryz.func70, Tryz.ntmps70
  go_wp2_with fail
  refine wp_region_sink 25 (fun _ => True) (by kernel_rfl) trivial (fun _ => ?_)
  refine sink_take (i := 0) (oi := _) (v := ?_) rfl (by kernel_rfl) (by decide) (by kernel_rfl) (by kernel_rfl) (by kernel_rfl) (by kernel_rfl) (fun _ _ _ h => h) (by rfl) (fun wx hSw => ?_) trivial ?_
  rotate_left
  · go_simp
    with_reducible rfl
  try simp only [Act.put, List.setIfInBounds_toArray, List.set_cons_zero, List.set_cons_succ]
  refine sink_take (i := 1) (oi := _) (v := ?_) rfl (by kernel_rfl) (by decide) (by kernel_rfl) (by kernel_rfl) (by kernel_rfl) (by kernel_rfl) (fun _ _ _ h => h) (by rfl) (fun wx hSw => ?_) trivial ?_
  rotate_left
  · go_simp
    with_reducible rfl
  try simp only [Act.put, List.setIfInBounds_toArray, List.set_cons_zero, List.set_cons_succ]
  refine sink_take (i := 2) (oi := _) (v := ?_) rfl (by kernel_rfl) (by decide) (by kernel_rfl) (by kernel_rfl) (by kernel_rfl) (by kernel_rfl) (fun _ _ _ h => h) (by rfl) (fun wx hSw => ?_) trivial ?_
  rotate_left
  · go_simp
    with_reducible rfl
  try simp only [Act.put, List.setIfInBounds_toArray, List.set_cons_zero, List.set_cons_succ]
  refine sink_take (i := 3) (oi := _) (v := ?_) rfl (by kernel_rfl) (by decide) (by kernel_rfl) (by kernel_rfl) (by kernel_rfl) (by kernel_rfl) (fun _ _ _ h => h) (by rfl) (fun wx hSw => ?_) trivial ?_
  rotate_left
  · go_simp
    with_reducible rfl
  try simp only [Act.put, List.setIfInBounds_toArray, List.set_cons_zero, List.set_cons_succ]
  refine sink_take (i := 4) (oi := _) (v := ?_) rfl (by kernel_rfl) (by decide) (by kernel_rfl) (by kernel_rfl) (by kernel_rfl) (by kernel_rfl) (fun _ _ _ h => h) (by rfl) (fun wx hSw => ?_) trivial ?_
  rotate_left
  · go_simp
    with_reducible rfl
  try simp only [Act.put, List.setIfInBounds_toArray, List.set_cons_zero, List.set_cons_succ]
  refine sink_take (i := 5) (oi := _) (v := ?_) rfl (by kernel_rfl) (by decide) (by kernel_rfl) (by kernel_rfl) (by kernel_rfl) (by kernel_rfl) (fun _ _ _ h => h) (by rfl) (fun wx hSw => ?_) trivial ?_
  rotate_left
  · go_simp
    with_reducible rfl
  try simp only [Act.put, List.setIfInBounds_toArray, List.set_cons_zero, List.set_cons_succ]
  refine sink_take (i := 6) (oi := _) (v := ?_) rfl (by kernel_rfl) (by decide) (by kernel_rfl) (by kernel_rfl) (by kernel_rfl) (by kernel_rfl) (fun _ _ _ h => h) (by rfl) (fun wx hSw => ?_) trivial ?_
  rotate_left
  · go_simp
    with_reducible rfl
  try simp only [Act.put, List.setIfInBounds_toArray, List.set_cons_zero, List.set_cons_succ]
  refine sink_take (i := 7) (oi := _) (v := ?_) rfl (by kernel_rfl) (by decide) (by kernel_rfl) (by kernel_rfl) (by kernel_rfl) (by kernel_rfl) (fun _ _ _ h => h) (by rfl) (fun wx hSw => ?_) trivial ?_
  rotate_left
  · go_simp
    with_reducible rfl
  try simp only [Act.put, List.setIfInBounds_toArray, List.set_cons_zero, List.set_cons_succ]
  refine sink_take (i := 8) (oi := _) (v := ?_) rfl (by kernel_rfl) (by decide) (by kernel_rfl) (by kernel_rfl) (by kernel_rfl) (by kernel_rfl) (fun _ _ _ h => h) (by rfl) (fun wx hSw => ?_) trivial ?_
  rotate_left
  · go_simp
    with_reducible rfl
  try simp only [Act.put, List.setIfInBounds_toArray, List.set_cons_zero, List.set_cons_succ]
  refine sink_take (i := 9) (oi := _) (v := ?_) rfl (by kernel_rfl) (by decide) (by kernel_rfl) (by kernel_rfl) (by kernel_rfl) (by kernel_rfl) (fun _ _ _ h => h) (by rfl) (fun wx hSw => ?_) trivial ?_
  rotate_left
  · go_simp
    with_reducible rfl
  try simp only [Act.put, List.setIfInBounds_toArray, List.set_cons_zero, List.set_cons_succ]
  refine sink_take (i := 10) (oi := _) (v := ?_) rfl (by kernel_rfl) (by decide) (by kernel_rfl) (by kernel_rfl) (by kernel_rfl) (by kernel_rfl) (fun _ _ _ h => h) (by rfl) (fun wx hSw => ?_) trivial ?_
  rotate_left
  · go_simp
    with_reducible rfl
  try simp only [Act.put, List.setIfInBounds_toArray, List.set_cons_zero, List.set_cons_succ]
  refine sink_take (i := 11) (oi := _) (v := ?_) rfl (by kernel_rfl) (by decide) (by kernel_rfl) (by kernel_rfl) (by kernel_rfl) (by kernel_rfl) (fun _ _ _ h => h) (by rfl) (fun wx hSw => ?_) trivial ?_
  rotate_left
  · go_simp
    with_reducible rfl
  try simp only [Act.put, List.setIfInBounds_toArray, List.set_cons_zero, List.set_cons_succ]
  refine sink_take (i := 12) (oi := _) (v := ?_) rfl (by kernel_rfl) (by decide) (by kernel_rfl) (by kernel_rfl) (by kernel_rfl) (by kernel_rfl) (fun _ _ _ h => h) (by rfl) (fun wx hSw => ?_) trivial ?_
  rotate_left
  · go_simp
    with_reducible rfl
  try simp only [Act.put, List.setIfInBounds_toArray, List.set_cons_zero, List.set_cons_succ]
  refine sink_take (i := 13) (oi := _) (v := ?_) rfl (by kernel_rfl) (by decide) (by kernel_rfl) (by kernel_rfl) (by kernel_rfl) (by kernel_rfl) (fun _ _ _ h => h) (by rfl) (fun wx hSw => ?_) trivial ?_
  rotate_left
  · go_simp
    with_reducible rfl
  try simp only [Act.put, List.setIfInBounds_toArray, List.set_cons_zero, List.set_cons_succ]
  refine sink_take (i := 14) (oi := _) (v := ?_) rfl (by kernel_rfl) (by decide) (by kernel_rfl) (by kernel_rfl) (by kernel_rfl) (by kernel_rfl) (fun _ _ _ h => h) (by rfl) (fun wx hSw => ?_) trivial ?_
  rotate_left
  · go_simp
    with_reducible rfl
  try simp only [Act.put, List.setIfInBounds_toArray, List.set_cons_zero, List.set_cons_succ]
  refine sink_take (i := 15) (oi := _) (v := ?_) rfl (by kernel_rfl) (by decide) (by kernel_rfl) (by kernel_rfl) (by kernel_rfl) (by kernel_rfl) (fun _ _ _ h => h) (by rfl) (fun wx hSw => ?_) trivial ?_
  rotate_left
  · go_simp
    with_reducible rfl
  try simp only [Act.put, List.setIfInBounds_toArray, List.set_cons_zero, List.set_cons_succ]
  refine sink_take (i := 16) (oi := _) (v := ?_) rfl (by kernel_rfl) (by decide) (by kernel_rfl) (by kernel_rfl) (by kernel_rfl) (by kernel_rfl) (fun _ _ _ h => h) (by rfl) (fun wx hSw => ?_) trivial ?_
  rotate_left
  · go_simp
    with_reducible rfl
  try simp only [Act.put, List.setIfInBounds_toArray, List.set_cons_zero, List.set_cons_succ]
  refine sink_take (i := 17) (oi := _) (v := ?_) rfl (by kernel_rfl) (by decide) (by kernel_rfl) (by kernel_rfl) (by kernel_rfl) (by kernel_rfl) (fun _ _ _ h => h) (by rfl) (fun wx hSw => ?_) trivial ?_
  rotate_left
  · go_simp
    with_reducible rfl
  try simp only [Act.put, List.setIfInBounds_toArray, List.set_cons_zero, List.set_cons_succ]
  refine sink_take (i := 18) (oi := _) (v := ?_) rfl (by kernel_rfl) (by decide) (by kernel_rfl) (by kernel_rfl) (by kernel_rfl) (by kernel_rfl) (fun _ _ _ h => h) (by rfl) (fun wx hSw => ?_) trivial ?_
  rotate_left
  · go_simp
    with_reducible rfl
  try simp only [Act.put, List.setIfInBounds_toArray, List.set_cons_zero, List.set_cons_succ]
  refine sink_take (i := 19) (oi := _) (v := ?_) rfl (by kernel_rfl) (by decide) (by kernel_rfl) (by kernel_rfl) (by kernel_rfl) (by kernel_rfl) (fun _ _ _ h => h) (by rfl) (fun wx hSw => ?_) trivial ?_
  rotate_left
  · go_simp
    with_reducible rfl
  try simp only [Act.put, List.setIfInBounds_toArray, List.set_cons_zero, List.set_cons_succ]
  refine sink_take (i := 20) (oi := _) (v := ?_) rfl (by kernel_rfl) (by decide) (by kernel_rfl) (by kernel_rfl) (by kernel_rfl) (by kernel_rfl) (fun _ _ _ h => h) (by rfl) (fun wx hSw => ?_) trivial ?_
  rotate_left
  · go_simp
    with_reducible rfl
  try simp only [Act.put, List.setIfInBounds_toArray, List.set_cons_zero, List.set_cons_succ]
  refine sink_take (i := 21) (oi := _) (v := ?_) rfl (by kernel_rfl) (by decide) (by kernel_rfl) (by kernel_rfl) (by kernel_rfl) (by kernel_rfl) (fun _ _ _ h => h) (by rfl) (fun wx hSw => ?_) trivial ?_
  rotate_left
  · go_simp
    with_reducible rfl
  try simp only [Act.put, List.setIfInBounds_toArray, List.set_cons_zero, List.set_cons_succ]
  refine sink_take (i := 22) (oi := _) (v := ?_) rfl (by kernel_rfl) (by decide) (by kernel_rfl) (by kernel_rfl) (by kernel_rfl) (by kernel_rfl) (fun _ _ _ h => h) (by rfl) (fun wx hSw => ?_) trivial ?_
  rotate_left
  · go_simp
    with_reducible rfl
  try simp only [Act.put, List.setIfInBounds_toArray, List.set_cons_zero, List.set_cons_succ]
  refine sink_take (i := 23) (oi := _) (v := ?_) rfl (by kernel_rfl) (by decide) (by kernel_rfl) (by kernel_rfl) (by kernel_rfl) (by kernel_rfl) (fun _ _ _ h => h) (by rfl) (fun wx hSw => ?_) trivial ?_
  rotate_left
  · go_simp
    with_reducible rfl
  try simp only [Act.put, List.setIfInBounds_toArray, List.set_cons_zero, List.set_cons_succ]
  refine sink_take (i := 24) (oi := _) (v := ?_) rfl (by kernel_rfl) (by decide) (by kernel_rfl) (by kernel_rfl) (by kernel_rfl) (by kernel_rfl) (fun _ _ _ h => h) (by rfl) (fun wx hSw => ?_) trivial ?_
  rotate_left
  · go_simp
    with_reducible rfl
  try simp only [Act.put, List.setIfInBounds_toArray, List.set_cons_zero, List.set_cons_succ]
  refine sink_last (by kernel_rfl) rfl (by kernel_rfl) (by kernel_rfl) (fun K hK => ?_)
  go_simp
  refine hK.out _ _ ?_
  clear hK K
  try simp only [Act.put, List.setIfInBounds_toArray, List.set_cons_zero, List.set_cons_succ]
  go_wp2
  refine bodyPost_ret (v := .agg (numPtrs b)) ?_ rfl ⟨rfl, ((Below.refl w.heap.size w).alloc (Nat.le_refl _) _).drew⟩
  exact results_cell1 rfl _ _ w.heap.size _ _ rfl (Blk.new w _ (numPtrs b)).drew Tryz.underlying113 rfl (by kernel_rfl)

/-- What numbers of a head stand in its bytes. -/
def numAt (v s g u j pg rt sn : Int) (k : Nat) : Int := [v, s, g, u, j, pg, rt, sn].getD k 0
def numOff (k : Nat) : Nat := [0, 1, 2, 3, 4, 6, 7, 8].getD k 0
theorem num_index (b k : Nat) (h : k < 8) (w : World) : (Instr.index 113 (.agg (numPtrs b)) (.int .i64 (k : Int))).run Tryz.prog w = .ok (.pointer (some ⟨b, numOff k, none⟩)) w :=
  match k, h with
  | 0, _ => by kernel_rfl
  | 1, _ => by kernel_rfl
  | 2, _ => by kernel_rfl
  | 3, _ => by kernel_rfl
  | 4, _ => by kernel_rfl
  | 5, _ => by kernel_rfl
  | 6, _ => by kernel_rfl
  | 7, _ => by kernel_rfl
abbrev headCells (v s g u j nu pg rt sn : Int) : Array Value := #[.int .i64 v, .int .i64 s, .int .i64 g, .int .i64 u, .int .i64 j, .int .i64 nu, .int .i64 pg, .int .i64 rt, .int .i64 sn]
theorem num_cell {w : World} {b : Nat} {v s g u j nu pg rt sn : Int} (h : Blk w b 56 (headCells v s g u j nu pg rt sn)) (k : Nat) (hk : k < 8) : w.cell? ⟨b, numOff k, none⟩ = some (.int .i64 (numAt v s g u j pg rt sn k)) :=
  match k, hk with
  | 0, _ => h.cell 0
  | 1, _ => h.cell 1
  | 2, _ => h.cell 2
  | 3, _ => h.cell 3
  | 4, _ => h.cell 4
  | 5, _ => h.cell 6
  | 6, _ => h.cell 7
  | 7, _ => h.cell 8
/-- A head's data in its frame. -/
def headData (v s g u j pg rt sn : Int) : List B8 := be v.toNat 4 ++ be s.toNat 4 ++ be g.toNat 4 ++ be u.toNat 4 ++ be j.toNat 4 ++ be pg.toNat 4 ++ be rt.toNat 4 ++ be sn.toNat 4
theorem headData_length (v s g u j pg rt sn : Int) : (headData v s g u j pg rt sn).length = 32 := by simp [headData, be_length]
theorem headData_take (v s g u j pg rt sn : Int) (k : Nat) (hk : k < 8) : (headData v s g u j pg rt sn).take (4 * k) ++ be (numAt v s g u j pg rt sn k).toNat 4 = (headData v s g u j pg rt sn).take (4 * (k + 1)) :=
  match k, hk with
  | 0, _ => rfl
  | 1, _ => rfl
  | 2, _ => rfl
  | 3, _ => rfl
  | 4, _ => rfl
  | 5, _ => rfl
  | 6, _ => rfl
  | 7, _ => rfl

theorem be4_cells (n : Nat) : #[Value.int .u8 (IntKind.u8.wrap ((n : Int) / 16777216)), .int .u8 (IntKind.u8.wrap ((n : Int) / 65536)), .int .u8 (IntKind.u8.wrap ((n : Int) / 256)), .int .u8 (IntKind.u8.wrap (n : Int))] = (bs (be n 4)).toArray := by
  have h0 : IntKind.u8.wrap ((n : Int) / 16777216) = ((BitVec.ofNat 8 (n / 16777216)).toNat : Int) := by rw [IntKind.wrap_u8, BitVec.toNat_ofNat]; omega
  have h1 : IntKind.u8.wrap ((n : Int) / 65536) = ((BitVec.ofNat 8 (n / 65536)).toNat : Int) := by rw [IntKind.wrap_u8, BitVec.toNat_ofNat]; omega
  have h2 : IntKind.u8.wrap ((n : Int) / 256) = ((BitVec.ofNat 8 (n / 256)).toNat : Int) := by rw [IntKind.wrap_u8, BitVec.toNat_ofNat]; omega
  have h3 : IntKind.u8.wrap (n : Int) = ((BitVec.ofNat 8 (n / 1)).toNat : Int) := by rw [IntKind.wrap_u8, BitVec.toNat_ofNat]; omega
  rw [h0, h1, h2, h3]
  rfl
/-- A head is right, its number but one. -/
theorem hput_bad (v s g u j nu pg rt sn : Int) (w : World) (h : ¬ headRight v s g u j pg rt sn) :
    Calls Tryz.prog 30 #[.agg (headCells v s g u j nu pg rt sn)] w fun e w' => e = .returned (.tuple #[.slice none 0 0, .int .i64 2]) ∧ Below w.heap.size w w' := by
  have b0 : Below w.heap.size w (w.alloc (.cells (headCells v s g u j nu pg rt sn) 56)) := (Below.refl _ _).alloc (Nat.le_refl _) _
  have R := hright_any v s g u j nu pg rt sn (w.alloc (.cells (headCells v s g u j nu pg rt sn) 56))
  rw [decide_eq_false h] at R
  have HR := hide R
  clear R h
  go_enter Tryz.func30, Tryz.ntmps30
  go_wp2_with fail
  refine HR.out.mono ?_
  rintro e w2 ⟨rfl, b1⟩
  go_wp2
  go_ret2
  exact ⟨rfl, b0.trans (b1.mono b0.size)⟩
theorem headRight_bounds {v s g u j pg rt sn : Int} (h : headRight v s g u j pg rt sn) : ∀ k, k < 8 → 0 ≤ numAt v s g u j pg rt sn k ∧ numAt v s g u j pg rt sn k ≤ 1073741824 := by
  obtain ⟨⟨h1, h2⟩, ⟨h3, h4⟩, h5, h6⟩ := h
  by_cases hg : geoOk v s g u j
  · rw [if_pos hg] at h2
    obtain ⟨g1, g2, g3⟩ := geo_bounds hg
    have hp : pagesOf v s g ≤ 100000 := by have := pages_small v s g u j; rwa [if_pos hg] at this
    obtain ⟨⟨k1, _, k3, k4, k5, k6⟩, _⟩ := hg
    intro k hk
    match k, hk with
    | 0, _ => exact ⟨by show 0 ≤ v; omega, by show v ≤ _; omega⟩
    | 1, _ => exact ⟨by show 0 ≤ s; omega, by show s ≤ _; omega⟩
    | 2, _ => exact ⟨by show 0 ≤ g; omega, by show g ≤ _; omega⟩
    | 3, _ => exact ⟨by show 0 ≤ u; omega, by show u ≤ _; omega⟩
    | 4, _ => exact ⟨by show 0 ≤ j; omega, by show j ≤ _; omega⟩
    | 5, _ => exact ⟨by show 0 ≤ pg; omega, by show pg ≤ _; omega⟩
    | 6, _ => exact ⟨by show 0 ≤ rt; omega, by show rt ≤ _; omega⟩
    | 7, _ => exact ⟨by show 0 ≤ sn; omega, by show sn ≤ _; omega⟩
  · rw [if_neg hg] at h2
    omega

/-- What frame.Put answers, and whose it is. -/
theorem put_own (k e s : Int) (A : Option Addr) (c n : Nat) (d : List B8) (P : Nat → Prop) (w : World) (hn : d.length = n) (hr : Rd w P A (bs d)) (hd : n ≤ 140737488351232) :
    Calls Tryz.prog 71 #[.agg #[.int .i64 k, .int .i64 e, .int .i64 s, .slice A n c]] w fun r w' =>
      ∃ A' c', r = .returned (.tuple #[.slice A' (putRes k e s d).1.length c', .int .i64 (putRes k e s d).2]) ∧ OwnB w' w.heap.size (.slice A' (putRes k e s d).1.length c') (putRes k e s d).1 ∧ (putRes k e s d).1.length ≤ c' ∧ Below w.heap.size w w' := by
  subst hn
  unfold putRes
  by_cases h : okNums k e s
  · rw [if_pos h]
    obtain ⟨h1, h2, h3, h4, h5, h6⟩ := id h
    by_cases hl : d.length ≤ 32768
    · rw [if_pos hl]
      have := put_good k.toNat e.toNat s.toNat A c d P w (by omega) (by omega) (by omega) hl hr
      rw [Int.toNat_of_nonneg h1, Int.toNat_of_nonneg h3, Int.toNat_of_nonneg h5] at this
      refine this.mono ?_
      rintro r w' ⟨⟨g, hg, rfl, hrow⟩, hb⟩
      exact ⟨_, _, by rw [frameBytes_length], hrow.own hg, by rw [frameBytes_length]; exact Nat.le_refl _, hb⟩
    · rw [if_neg hl]
      refine (put_long k e s A d.length c w h (by omega) hd).mono ?_
      rintro r w' ⟨rfl, hb⟩
      exact ⟨none, 0, rfl, OwnB.nil _ _, Nat.le_refl _, hb⟩
  · rw [if_neg h]
    refine (put_bad k e s (.slice A d.length c) w h).mono ?_
    rintro r w' ⟨rfl, hb⟩
    exact ⟨none, 0, rfl, OwnB.nil _ _, Nat.le_refl _, hb⟩

set_option maxRecDepth 100000 in
set_option maxHeartbeats 1600000 in
theorem hput_right (v s g u j nu pg rt sn : Int) (w : World) (h : headRight v s g u j pg rt sn) :
    Calls Tryz.prog 30 #[.agg (headCells v s g u j nu pg rt sn)] w fun r w' =>
      ∃ A' c', r = .returned (.tuple #[.slice A' (putRes 1 nu 0 (headData v s g u j pg rt sn)).1.length c', .int .i64 (putRes 1 nu 0 (headData v s g u j pg rt sn)).2]) ∧ OwnB w' w.heap.size (.slice A' (putRes 1 nu 0 (headData v s g u j pg rt sn)).1.length c') (putRes 1 nu 0 (headData v s g u j pg rt sn)).1 ∧ (putRes 1 nu 0 (headData v s g u j pg rt sn)).1.length ≤ c' ∧ Below w.heap.size w w' := by
  have b0 : Below w.heap.size w (w.alloc (.cells (headCells v s g u j nu pg rt sn) 56)) := (Below.refl _ _).alloc (Nat.le_refl _) _
  have G0 := Blk.new w 56 (headCells v s g u j nu pg rt sn)
  have R := hright_any v s g u j nu pg rt sn (w.alloc (.cells (headCells v s g u j nu pg rt sn) 56))
  rw [decide_eq_true h] at R
  have hbd := headRight_bounds h
  have HR := hide R
  have HBD := hide hbd
  clear R h hbd
  go_enter Tryz.func30, Tryz.ntmps30
  go_wp2_with fail
  refine HR.out.mono ?_
  rintro e w2 ⟨rfl, b1⟩
  have G2 := G0.below b1 G0.lt
  have b2 := b0.trans (b1.mono b0.size)
  clear HR G0 b0 b1
  have c5 : w2.cell? ⟨w.heap.size, 5, none⟩ = some (.int .i64 nu) := G2.cell 5
  have F3 := Blk.new w2 111 #[.int .i64 1, .int .i64 nu, .int .i64 0, .slice none 0 0]
  have G3 := G2.alloc (.cells #[.int .i64 1, .int .i64 nu, .int .i64 0, .slice none 0 0] 111)
  have b3 := b2.alloc b2.size (.cells #[.int .i64 1, .int .i64 nu, .int .i64 0, .slice none 0 0] 111)
  have hlt2 := G2.lt
  go_wp2_with fail
  generalize w2.alloc (.cells #[.int .i64 1, .int .i64 nu, .int .i64 0, .slice none 0 0] 111) = w3 at *
  generalize w2.heap.size = fb at *
  clear c5 G2 b2
  refine (numbers_any w.heap.size w3).mono ?_
  rintro e w4 ⟨rfl, b4⟩
  have F4 := F3.below b4 F3.lt
  have G4 := G3.below b4 G3.lt
  have bw4 := b3.trans (b4.mono b3.size)
  clear F3 G3 b3 b4
  go_wp2_with fail
  go_loopw [14] (fun i wr => ∃ (k : Nat) (vv : Value), k ≤ 8 ∧ i = .int .i64 k ∧ Blk wr w.heap.size 56 (headCells v s g u j nu pg rt sn) ∧ Blk wr fb 111 #[.int .i64 1, .int .i64 nu, .int .i64 0, vv] ∧
      OwnB wr (fb + 1) vv ((headData v s g u j pg rt sn).take (4 * k)) ∧ Below w.heap.size w wr) (fun i _ => 8 - (intOf i).toNat)
  case atStart => exact ⟨0, _, by omega, rfl, G4, F4, OwnB.nil _ _, bw4⟩
  case round =>
    clear F4 G4 bw4
    obtain ⟨k, vv, hk, rfl, G, F, own, bw⟩ := hrel
    by_cases hlt : k < 8
    · have ix := num_index w.heap.size k hlt
      obtain ⟨hn0, hn1⟩ := HBD.out k hlt
      have cN := num_cell G k hlt
      have HT := hide (headData_take v s g u j pg rt sn k hlt)
      generalize numAt v s g u j pg rt sn k = nk at *
      generalize numOff k = o at *
      have cF : wr.cell? ⟨fb, 3, none⟩ = some vv := F.cell 3
      have fF := F.frozen 3
      obtain ⟨nn, rfl⟩ := Int.eq_ofNat_of_zero_le hn0
      have neF : ∀ x, x ≤ fb → some x ≠ vv.ownBlock := fun x hx e => by have := (own.lt x e.symm).1; omega
      go_wp2_with fail
      refine wp_region_sink 24 (fun wx => wr.grownBy wx vv.ownBlock) (by kernel_rfl) (only_drew (only_refl _ _)) (fun hHeld => ?_)
      refine sink_take (i := 0) (oi := _) (v := ?_) rfl (by kernel_rfl) (by decide) (by kernel_rfl) (by kernel_rfl) (by kernel_rfl) (by kernel_rfl) (fun _ _ _ h => h) (by rfl) (fun wx hSw => ?_) hHeld ?_
      rotate_left
      · have q3 := hSw.cell cF (neF _ (Nat.le_refl _)); have qn := hSw.cell cN (neF _ (Nat.le_of_lt hlt2)); go_simp
        with_reducible rfl
      try simp only [Act.put, List.setIfInBounds_toArray, List.set_cons_zero, List.set_cons_succ]
      refine sink_take (i := 1) (oi := _) (v := ?_) rfl (by kernel_rfl) (by decide) (by kernel_rfl) (by kernel_rfl) (by kernel_rfl) (by kernel_rfl) (fun _ _ _ h => h) (by rfl) (fun wx hSw => ?_) hHeld ?_
      rotate_left
      · have q3 := hSw.cell cF (neF _ (Nat.le_refl _)); have qn := hSw.cell cN (neF _ (Nat.le_of_lt hlt2)); go_simp
        with_reducible rfl
      try simp only [Act.put, List.setIfInBounds_toArray, List.set_cons_zero, List.set_cons_succ]
      refine sink_take (i := 2) (oi := _) (v := ?_) rfl (by kernel_rfl) (by decide) (by kernel_rfl) (by kernel_rfl) (by kernel_rfl) (by kernel_rfl) (fun _ _ _ h => h) (by rfl) (fun wx hSw => ?_) hHeld ?_
      rotate_left
      · have q3 := hSw.cell cF (neF _ (Nat.le_refl _)); have qn := hSw.cell cN (neF _ (Nat.le_of_lt hlt2)); go_simp
        with_reducible rfl
      try simp only [Act.put, List.setIfInBounds_toArray, List.set_cons_zero, List.set_cons_succ]
      refine sink_take (i := 3) (oi := _) (v := ?_) rfl (by kernel_rfl) (by decide) (by kernel_rfl) (by kernel_rfl) (by kernel_rfl) (by kernel_rfl) (fun _ _ _ h => h) (by rfl) (fun wx hSw => ?_) hHeld ?_
      rotate_left
      · have q3 := hSw.cell cF (neF _ (Nat.le_refl _)); have qn := hSw.cell cN (neF _ (Nat.le_of_lt hlt2)); go_simp
        with_reducible rfl
      try simp only [Act.put, List.setIfInBounds_toArray, List.set_cons_zero, List.set_cons_succ]
      refine sink_take (i := 4) (oi := _) (v := ?_) rfl (by kernel_rfl) (by decide) (by kernel_rfl) (by kernel_rfl) (by kernel_rfl) (by kernel_rfl) (fun _ _ _ h => h) (by rfl) (fun wx hSw => ?_) hHeld ?_
      rotate_left
      · have q3 := hSw.cell cF (neF _ (Nat.le_refl _)); have qn := hSw.cell cN (neF _ (Nat.le_of_lt hlt2)); go_simp
        with_reducible rfl
      try simp only [Act.put, List.setIfInBounds_toArray, List.set_cons_zero, List.set_cons_succ]
      refine sink_take (i := 5) (oi := _) (v := ?_) rfl (by kernel_rfl) (by decide) (by kernel_rfl) (by kernel_rfl) (by kernel_rfl) (by kernel_rfl) (fun _ _ _ h => h) (by rfl) (fun wx hSw => ?_) hHeld ?_
      rotate_left
      · have q3 := hSw.cell cF (neF _ (Nat.le_refl _)); have qn := hSw.cell cN (neF _ (Nat.le_of_lt hlt2)); go_simp
        with_reducible rfl
      try simp only [Act.put, List.setIfInBounds_toArray, List.set_cons_zero, List.set_cons_succ]
      refine sink_take (i := 6) (oi := _) (v := ?_) rfl (by kernel_rfl) (by decide) (by kernel_rfl) (by kernel_rfl) (by kernel_rfl) (by kernel_rfl) (fun _ _ _ h => h) (by rfl) (fun wx hSw => ?_) hHeld ?_
      rotate_left
      · have q3 := hSw.cell cF (neF _ (Nat.le_refl _)); have qn := hSw.cell cN (neF _ (Nat.le_of_lt hlt2)); go_simp
        with_reducible rfl
      try simp only [Act.put, List.setIfInBounds_toArray, List.set_cons_zero, List.set_cons_succ]
      refine sink_take (i := 7) (oi := _) (v := ?_) rfl (by kernel_rfl) (by decide) (by kernel_rfl) (by kernel_rfl) (by kernel_rfl) (by kernel_rfl) (fun _ _ _ h => h) (by rfl) (fun wx hSw => ?_) hHeld ?_
      rotate_left
      · have q3 := hSw.cell cF (neF _ (Nat.le_refl _)); have qn := hSw.cell cN (neF _ (Nat.le_of_lt hlt2)); go_simp
        with_reducible rfl
      try simp only [Act.put, List.setIfInBounds_toArray, List.set_cons_zero, List.set_cons_succ]
      refine sink_take (i := 8) (oi := _) (v := ?_) rfl (by kernel_rfl) (by decide) (by kernel_rfl) (by kernel_rfl) (by kernel_rfl) (by kernel_rfl) (fun _ _ _ h => h) (by rfl) (fun wx hSw => ?_) hHeld ?_
      rotate_left
      · have q3 := hSw.cell cF (neF _ (Nat.le_refl _)); have qn := hSw.cell cN (neF _ (Nat.le_of_lt hlt2)); go_simp
        with_reducible rfl
      try simp only [Act.put, List.setIfInBounds_toArray, List.set_cons_zero, List.set_cons_succ]
      refine sink_take (i := 9) (oi := _) (v := ?_) rfl (by kernel_rfl) (by decide) (by kernel_rfl) (by kernel_rfl) (by kernel_rfl) (by kernel_rfl) (fun _ _ _ h => h) (by rfl) (fun wx hSw => ?_) hHeld ?_
      rotate_left
      · have q3 := hSw.cell cF (neF _ (Nat.le_refl _)); have qn := hSw.cell cN (neF _ (Nat.le_of_lt hlt2)); go_simp
        with_reducible rfl
      try simp only [Act.put, List.setIfInBounds_toArray, List.set_cons_zero, List.set_cons_succ]
      refine sink_take (i := 10) (oi := _) (v := ?_) rfl (by kernel_rfl) (by decide) (by kernel_rfl) (by kernel_rfl) (by kernel_rfl) (by kernel_rfl) (fun _ _ _ h => h) (by rfl) (fun wx hSw => ?_) hHeld ?_
      rotate_left
      · have q3 := hSw.cell cF (neF _ (Nat.le_refl _)); have qn := hSw.cell cN (neF _ (Nat.le_of_lt hlt2)); go_simp
        with_reducible rfl
      try simp only [Act.put, List.setIfInBounds_toArray, List.set_cons_zero, List.set_cons_succ]
      refine sink_take (i := 11) (oi := _) (v := ?_) rfl (by kernel_rfl) (by decide) (by kernel_rfl) (by kernel_rfl) (by kernel_rfl) (by kernel_rfl) (fun _ _ _ h => h) (by rfl) (fun wx hSw => ?_) hHeld ?_
      rotate_left
      · have q3 := hSw.cell cF (neF _ (Nat.le_refl _)); have qn := hSw.cell cN (neF _ (Nat.le_of_lt hlt2)); go_simp
        with_reducible rfl
      try simp only [Act.put, List.setIfInBounds_toArray, List.set_cons_zero, List.set_cons_succ]
      refine sink_take (i := 12) (oi := _) (v := ?_) rfl (by kernel_rfl) (by decide) (by kernel_rfl) (by kernel_rfl) (by kernel_rfl) (by kernel_rfl) (fun _ _ _ h => h) (by rfl) (fun wx hSw => ?_) hHeld ?_
      rotate_left
      · have q3 := hSw.cell cF (neF _ (Nat.le_refl _)); have qn := hSw.cell cN (neF _ (Nat.le_of_lt hlt2)); go_simp
        with_reducible rfl
      try simp only [Act.put, List.setIfInBounds_toArray, List.set_cons_zero, List.set_cons_succ]
      refine sink_take (i := 13) (oi := _) (v := ?_) rfl (by kernel_rfl) (by decide) (by kernel_rfl) (by kernel_rfl) (by kernel_rfl) (by kernel_rfl) (fun _ _ _ h => h) (by rfl) (fun wx hSw => ?_) hHeld ?_
      rotate_left
      · have q3 := hSw.cell cF (neF _ (Nat.le_refl _)); have qn := hSw.cell cN (neF _ (Nat.le_of_lt hlt2)); go_simp
        with_reducible rfl
      try simp only [Act.put, List.setIfInBounds_toArray, List.set_cons_zero, List.set_cons_succ]
      refine sink_take (i := 14) (oi := _) (v := ?_) rfl (by kernel_rfl) (by decide) (by kernel_rfl) (by kernel_rfl) (by kernel_rfl) (by kernel_rfl) (fun _ _ _ h => h) (by rfl) (fun wx hSw => ?_) hHeld ?_
      rotate_left
      · have q3 := hSw.cell cF (neF _ (Nat.le_refl _)); have qn := hSw.cell cN (neF _ (Nat.le_of_lt hlt2)); go_simp
        with_reducible rfl
      try simp only [Act.put, List.setIfInBounds_toArray, List.set_cons_zero, List.set_cons_succ]
      refine sink_take (i := 15) (oi := _) (v := ?_) rfl (by kernel_rfl) (by decide) (by kernel_rfl) (by kernel_rfl) (by kernel_rfl) (by kernel_rfl) (fun _ _ _ h => h) (by rfl) (fun wx hSw => ?_) hHeld ?_
      rotate_left
      · have q3 := hSw.cell cF (neF _ (Nat.le_refl _)); have qn := hSw.cell cN (neF _ (Nat.le_of_lt hlt2)); go_simp
        with_reducible rfl
      try simp only [Act.put, List.setIfInBounds_toArray, List.set_cons_zero, List.set_cons_succ]
      refine sink_take (i := 16) (oi := _) (v := ?_) rfl (by kernel_rfl) (by decide) (by kernel_rfl) (by kernel_rfl) (by kernel_rfl) (by kernel_rfl) (fun _ _ _ h => h) (by rfl) (fun wx hSw => ?_) hHeld ?_
      rotate_left
      · have q3 := hSw.cell cF (neF _ (Nat.le_refl _)); have qn := hSw.cell cN (neF _ (Nat.le_of_lt hlt2)); go_simp
        with_reducible rfl
      try simp only [Act.put, List.setIfInBounds_toArray, List.set_cons_zero, List.set_cons_succ]
      refine sink_take (i := 17) (oi := _) (v := ?_) rfl (by kernel_rfl) (by decide) (by kernel_rfl) (by kernel_rfl) (by kernel_rfl) (by kernel_rfl) (fun _ _ _ h => h) (by rfl) (fun wx hSw => ?_) hHeld ?_
      rotate_left
      · have q3 := hSw.cell cF (neF _ (Nat.le_refl _)); have qn := hSw.cell cN (neF _ (Nat.le_of_lt hlt2)); go_simp
        with_reducible rfl
      try simp only [Act.put, List.setIfInBounds_toArray, List.set_cons_zero, List.set_cons_succ]
      refine sink_take (i := 18) (oi := _) (v := ?_) rfl (by kernel_rfl) (by decide) (by kernel_rfl) (by kernel_rfl) (by kernel_rfl) (by kernel_rfl) (fun _ _ _ h => h) (by rfl) (fun wx hSw => ?_) hHeld ?_
      rotate_left
      · have q3 := hSw.cell cF (neF _ (Nat.le_refl _)); have qn := hSw.cell cN (neF _ (Nat.le_of_lt hlt2)); go_simp
        with_reducible rfl
      try simp only [Act.put, List.setIfInBounds_toArray, List.set_cons_zero, List.set_cons_succ]
      refine sink_take (i := 19) (oi := _) (v := ?_) rfl (by kernel_rfl) (by decide) (by kernel_rfl) (by kernel_rfl) (by kernel_rfl) (by kernel_rfl) (fun _ _ _ h => h) (by rfl) (fun wx hSw => ?_) hHeld ?_
      rotate_left
      · have q3 := hSw.cell cF (neF _ (Nat.le_refl _)); have qn := hSw.cell cN (neF _ (Nat.le_of_lt hlt2)); go_simp
        with_reducible rfl
      try simp only [Act.put, List.setIfInBounds_toArray, List.set_cons_zero, List.set_cons_succ]
      refine sink_take (i := 20) (oi := _) (v := ?_) rfl (by kernel_rfl) (by decide) (by kernel_rfl) (by kernel_rfl) (by kernel_rfl) (by kernel_rfl) (fun _ _ _ h => h) (by rfl) (fun wx hSw => ?_) hHeld ?_
      rotate_left
      · have q3 := hSw.cell cF (neF _ (Nat.le_refl _)); have qn := hSw.cell cN (neF _ (Nat.le_of_lt hlt2)); go_simp
        with_reducible rfl
      try simp only [Act.put, List.setIfInBounds_toArray, List.set_cons_zero, List.set_cons_succ]
      refine sink_ready (rs := [21]) (by kernel_rfl) (by simp) (ReadyL.cons (o := _) rfl (fun K hK => ?_) ReadyL.nil)
      go_simp
      refine hK.out _ _ (only_alloc hHeld _) (fun hHeld => ?_)
      clear hK K
      try simp only [Act.put, List.setIfInBounds_toArray, List.set_cons_zero, List.set_cons_succ]
      have hsz := F.lt
      have RB : Rd (wr.alloc (.cells #[.int .u8 (IntKind.u8.wrap ((nn : Int) / 16777216)), .int .u8 (IntKind.u8.wrap ((nn : Int) / 65536)), .int .u8 (IntKind.u8.wrap ((nn : Int) / 256)), .int .u8 (IntKind.u8.wrap (nn : Int))] 5)).drew (fun _ => True) (some ⟨wr.heap.size, 0, none⟩) (bs (be nn 4)) :=
        (rd_alloc wr 5 _ (0, 0) _ (be4_cells nn) _ trivial).drew
      have hle : ((headData v s g u j pg rt sn).take (4 * k)).length ≤ 32 := by rw [List.length_take, headData_length]; omega
      refine sink_ready (rs := [22]) (by kernel_rfl) (by simp) (ReadyL.cons (o := _) rfl (fun K hK => ?_) ReadyL.nil)
      refine step_append_u8 (by rfl) _ _ (by rfl) (fb + 1) vv ((headData v s g u j pg rt sn).take (4 * k)) (by rfl) (own.alloc _).drew (fun _ => True) (some ⟨wr.heap.size, 0, none⟩) 4 4 (be nn 4) (by rfl) (be_length _ _) RB (by omega) (by simp; omega) ?_; intro v3 w3 own3 g3 hx3
      refine hK.out _ _ (only_trans (only_drew (only_alloc (only_refl _ _) _)) g3) (fun hHeld => ?_)
      clear hK K
      try simp only [Act.put, List.setIfInBounds_toArray, List.set_cons_zero, List.set_cons_succ]
      refine sink_take (i := 23) (oi := _) (v := ?_) rfl (by kernel_rfl) (by decide) (by kernel_rfl) (by kernel_rfl) (by kernel_rfl) (by kernel_rfl) (fun _ _ _ h => h) (by rfl) (fun wx hSw => ?_) hHeld ?_
      rotate_left
      · go_simp
        with_reducible rfl
      try simp only [Act.put, List.setIfInBounds_toArray, List.set_cons_zero, List.set_cons_succ]
      have F3 := ((F.alloc (.cells #[.int .u8 (IntKind.u8.wrap ((nn : Int) / 16777216)), .int .u8 (IntKind.u8.wrap ((nn : Int) / 65536)), .int .u8 (IntKind.u8.wrap ((nn : Int) / 256)), .int .u8 (IntKind.u8.wrap (nn : Int))] 5)).drew).grown g3 (neF _ (Nat.le_refl _))
      have G3 := ((G.alloc (.cells #[.int .u8 (IntKind.u8.wrap ((nn : Int) / 16777216)), .int .u8 (IntKind.u8.wrap ((nn : Int) / 65536)), .int .u8 (IntKind.u8.wrap ((nn : Int) / 256)), .int .u8 (IntKind.u8.wrap (nn : Int))] 5)).drew).grown g3 (neF _ (Nat.le_of_lt hlt2))
      have q3 : w3.cell? ⟨fb, 3, none⟩ = some vv := F3.cell 3
      have f3 := F3.frozen 3
      have HT2 := HT.out
      rw [Int.toNat_natCast] at HT2
      rw [HT2] at own3
      clear HT2
      have b3 : Below w.heap.size w w3 := bw.trans (Below.trans ((Below.refl w.heap.size wr).alloc bw.size _).drew ⟨g3.os, g3.tape, g3.output, g3.size, fun x hx => g3.block x (by have := bw.size; simp; omega) (neF x (by omega))⟩)
      obtain ⟨A3, l3, n3, rfl⟩ : ∃ A l n, v3 = .slice A l n := by
        obtain ⟨A3, n3, hv3, _⟩ := own3.form
        exact ⟨_, _, _, hv3⟩
      refine sink_last (by kernel_rfl) rfl (by kernel_rfl) (by kernel_rfl) (fun K hK => ?_)
      go_simp
      refine hK.out _ _ ?_
      clear hK K
      try simp only [Act.put, List.setIfInBounds_toArray, List.set_cons_zero, List.set_cons_succ]
      go_wp2_with fail
      go_roundw
      case rel => exact ⟨k + 1, .slice A3 l3 n3, by omega, by go_num, G3.far (by simp; omega) _, F3.set_ 3 (.slice A3 l3 n3), own3.kept (only_setCell (only_refl _ _) (.inl rfl) _) (.inr fun e => by have := (own3.lt fb e).1; omega), b3.setCell (by simp; omega) _⟩
      case measure => simp [intOf]; omega
    · obtain rfl : k = 8 := by omega
      have q0 : wr.cell? ⟨fb, 0, none⟩ = some (.int .i64 1) := F.cell 0
      have q1 : wr.cell? ⟨fb, 1, none⟩ = some (.int .i64 nu) := F.cell 1
      have q2 : wr.cell? ⟨fb, 2, none⟩ = some (.int .i64 0) := F.cell 2
      have q3 : wr.cell? ⟨fb, 3, none⟩ = some vv := F.cell 3
      rw [List.take_of_length_le (by rw [headData_length]; omega)] at own
      obtain ⟨A, c, rfl, _⟩ := own.form
      have rd := own.rd (P := fun _ => True) fun _ _ _ _ => trivial
      go_wp2_with fail
      refine (put_own 1 nu 0 A c _ (headData v s g u j pg rt sn) _ wr rfl rd (by rw [headData_length]; omega)).mono ?_
      rintro r w9 ⟨A9, c9, rfl, r9, hc9, b9⟩
      go_wp2
      go_ret2
      exact ⟨A9, c9, rfl, r9.mono bw.size, hc9, bw.trans (b9.mono bw.size)⟩
end Go.Proofs.YtdkcjmpikmnedaaGreat
