/- The walk through the reference's head.Put. -/
import Derived.Test.YtdkcjmpikmnedaaGreatRef12
namespace Go.Proofs.YtdkcjmpikmnedaaGreat
open Go.RowKit
attribute [local go_sem ↓] Go.wp_at_zero Go.wp_at_succ
set_option linter.unusedSimpArgs false

theorem int_row_cell {w : World} {b : Nat} {a : Hd} (h : Blk w b 3 #[.int .i64 a.v, .int .i64 a.s, .int .i64 a.g, .int .i64 a.u, .int .i64 a.j, .int .i64 a.pg, .int .i64 a.rt, .int .i64 a.sn]) (k : Nat) (hk : k < 8) : w.cell? ⟨b, k, none⟩ = some (.int .i64 (numAt a.v a.s a.g a.u a.j a.pg a.rt a.sn k)) :=
  match k, hk with
  | 0, _ => h.cell 0
  | 1, _ => h.cell 1
  | 2, _ => h.cell 2
  | 3, _ => h.cell 3
  | 4, _ => h.cell 4
  | 5, _ => h.cell 5
  | 6, _ => h.cell 6
  | 7, _ => h.cell 7

set_option maxRecDepth 100000 in
set_option maxHeartbeats 1600000 in
theorem rput12_any (a : Hd) (w : World) :
    Calls Tryz.prog 31 #[.agg a.cs] w fun r w' =>
      ∃ A' c', r = .returned (.tuple #[.slice A' a.put.1.length c', .int .i64 a.put.2]) ∧ OwnB w' w.heap.size (.slice A' a.put.1.length c') a.put.1 ∧ a.put.1.length ≤ c' ∧ Below w.heap.size w w' := by
  have b0 : Below w.heap.size w (w.alloc (.cells a.cs 56)) := (Below.refl _ _).alloc (Nat.le_refl _) _
  have G0 := Blk.new w 56 a.cs
  have RC := rright12_any a (w.alloc (.cells a.cs 56))
  by_cases ok : headOk a
  · rw [decide_eq_true ok] at RC
    rw [show a.put = (a.bytes, 0) from hd_put_ok ok]
    have HBD := hide (headRight_bounds ok.1)
    obtain ⟨hnu0, hnu1⟩ := ok.2
    have HR := hide RC
    clear RC ok
    go_enter Tryz.func31, Tryz.ntmps31
    go_wp2_with fail
    refine HR.out.mono ?_
    rintro e w2 ⟨rfl, b1⟩
    have G2 := G0.below b1 G0.lt
    have b2 := b0.trans (b1.mono b0.size)
    clear HR G0 b0 b1
    have c0 : w2.cell? ⟨w.heap.size, 0, none⟩ = some (.int .i64 a.v) := G2.cell 0
    have c1 : w2.cell? ⟨w.heap.size, 1, none⟩ = some (.int .i64 a.s) := G2.cell 1
    have c2 : w2.cell? ⟨w.heap.size, 2, none⟩ = some (.int .i64 a.g) := G2.cell 2
    have c3 : w2.cell? ⟨w.heap.size, 3, none⟩ = some (.int .i64 a.u) := G2.cell 3
    have c4 : w2.cell? ⟨w.heap.size, 4, none⟩ = some (.int .i64 a.j) := G2.cell 4
    have c5 : w2.cell? ⟨w.heap.size, 5, none⟩ = some (.int .i64 a.nu) := G2.cell 5
    have c6 : w2.cell? ⟨w.heap.size, 6, none⟩ = some (.int .i64 a.pg) := G2.cell 6
    have c7 : w2.cell? ⟨w.heap.size, 7, none⟩ = some (.int .i64 a.rt) := G2.cell 7
    have c8 : w2.cell? ⟨w.heap.size, 8, none⟩ = some (.int .i64 a.sn) := G2.cell 8
    have L3 := Blk.new w2 3 #[.int .i64 a.v, .int .i64 a.s, .int .i64 a.g, .int .i64 a.u, .int .i64 a.j, .int .i64 a.pg, .int .i64 a.rt, .int .i64 a.sn]
    have G3 := G2.alloc (.cells #[.int .i64 a.v, .int .i64 a.s, .int .i64 a.g, .int .i64 a.u, .int .i64 a.j, .int .i64 a.pg, .int .i64 a.rt, .int .i64 a.sn] 3)
    have b3 := b2.alloc b2.size (.cells #[.int .i64 a.v, .int .i64 a.s, .int .i64 a.g, .int .i64 a.u, .int .i64 a.j, .int .i64 a.pg, .int .i64 a.rt, .int .i64 a.sn] 3)
    have hlt2 := G2.lt
    go_wp2_with fail
    generalize w2.alloc (.cells #[.int .i64 a.v, .int .i64 a.s, .int .i64 a.g, .int .i64 a.u, .int .i64 a.j, .int .i64 a.pg, .int .i64 a.rt, .int .i64 a.sn] 3) = w3 at *
    generalize w2.heap.size = lb at *
    clear c0 c1 c2 c3 c4 c5 c6 c7 c8 G2 b2
    go_loopw [5, 6] (fun v i wr => ∃ (k : Nat) (vv : Value), k ≤ 8 ∧ vv = v ∧ i = .int .i64 k ∧ Blk wr w.heap.size 56 a.cs ∧ Blk wr lb 3 #[.int .i64 a.v, .int .i64 a.s, .int .i64 a.g, .int .i64 a.u, .int .i64 a.j, .int .i64 a.pg, .int .i64 a.rt, .int .i64 a.sn] ∧ OwnB wr (lb + 1) vv (a.data.take (4 * k)) ∧ Below w.heap.size w wr) (fun _ i _ => 8 - (intOf i).toNat)
    case atStart => exact ⟨0, _, by omega, rfl, rfl, G3, L3, OwnB.nil _ _, b3⟩
    case round =>
      clear L3 G3 b3
      obtain ⟨k, vv, hk, rfl, rfl, G, F, own, bw⟩ := hrel
      by_cases hlt : k < 8
      · obtain ⟨hn0, hn1⟩ := HBD.out k hlt
        have cN := int_row_cell F k hlt
        have HT := hide (headData_take a.v a.s a.g a.u a.j a.pg a.rt a.sn k hlt)
        generalize numAt a.v a.s a.g a.u a.j a.pg a.rt a.sn k = nk at *
        have ik : (k : Int) < 8 := by omega
        obtain ⟨nn, rfl⟩ := Int.eq_ofNat_of_zero_le hn0
        have neF : ∀ x, x ≤ lb → some x ≠ vv.ownBlock := fun x hx e => by have := (own.lt x e.symm).1; omega
        go_wp2_with fail
        refine wp_region_sink 26 (fun wx => wr.grownBy wx vv.ownBlock) (by kernel_rfl) (only_drew (only_refl _ _)) (fun hHeld => ?_)
        refine sink_take (i := 0) (oi := _) (v := ?_) rfl (by kernel_rfl) (by decide) (by kernel_rfl) (by kernel_rfl) (by kernel_rfl) (by kernel_rfl) (fun _ _ _ h => h) (by rfl) (fun wx hSw => ?_) hHeld ?_
        rotate_left
        · have qn := hSw.cell cN (neF _ (Nat.le_refl _)); go_simp
          with_reducible rfl
        try simp only [Act.put, List.setIfInBounds_toArray, List.set_cons_zero, List.set_cons_succ]
        refine sink_take (i := 1) (oi := _) (v := ?_) rfl (by kernel_rfl) (by decide) (by kernel_rfl) (by kernel_rfl) (by kernel_rfl) (by kernel_rfl) (fun _ _ _ h => h) (by rfl) (fun wx hSw => ?_) hHeld ?_
        rotate_left
        · have qn := hSw.cell cN (neF _ (Nat.le_refl _)); go_simp
          with_reducible rfl
        try simp only [Act.put, List.setIfInBounds_toArray, List.set_cons_zero, List.set_cons_succ]
        refine sink_take (i := 2) (oi := _) (v := ?_) rfl (by kernel_rfl) (by decide) (by kernel_rfl) (by kernel_rfl) (by kernel_rfl) (by kernel_rfl) (fun _ _ _ h => h) (by rfl) (fun wx hSw => ?_) hHeld ?_
        rotate_left
        · have qn := hSw.cell cN (neF _ (Nat.le_refl _)); go_simp
          with_reducible rfl
        try simp only [Act.put, List.setIfInBounds_toArray, List.set_cons_zero, List.set_cons_succ]
        refine sink_take (i := 3) (oi := _) (v := ?_) rfl (by kernel_rfl) (by decide) (by kernel_rfl) (by kernel_rfl) (by kernel_rfl) (by kernel_rfl) (fun _ _ _ h => h) (by rfl) (fun wx hSw => ?_) hHeld ?_
        rotate_left
        · have qn := hSw.cell cN (neF _ (Nat.le_refl _)); go_simp
          with_reducible rfl
        try simp only [Act.put, List.setIfInBounds_toArray, List.set_cons_zero, List.set_cons_succ]
        refine sink_take (i := 4) (oi := _) (v := ?_) rfl (by kernel_rfl) (by decide) (by kernel_rfl) (by kernel_rfl) (by kernel_rfl) (by kernel_rfl) (fun _ _ _ h => h) (by rfl) (fun wx hSw => ?_) hHeld ?_
        rotate_left
        · have qn := hSw.cell cN (neF _ (Nat.le_refl _)); go_simp
          with_reducible rfl
        try simp only [Act.put, List.setIfInBounds_toArray, List.set_cons_zero, List.set_cons_succ]
        refine sink_take (i := 5) (oi := _) (v := ?_) rfl (by kernel_rfl) (by decide) (by kernel_rfl) (by kernel_rfl) (by kernel_rfl) (by kernel_rfl) (fun _ _ _ h => h) (by rfl) (fun wx hSw => ?_) hHeld ?_
        rotate_left
        · have qn := hSw.cell cN (neF _ (Nat.le_refl _)); go_simp
          with_reducible rfl
        try simp only [Act.put, List.setIfInBounds_toArray, List.set_cons_zero, List.set_cons_succ]
        refine sink_take (i := 6) (oi := _) (v := ?_) rfl (by kernel_rfl) (by decide) (by kernel_rfl) (by kernel_rfl) (by kernel_rfl) (by kernel_rfl) (fun _ _ _ h => h) (by rfl) (fun wx hSw => ?_) hHeld ?_
        rotate_left
        · have qn := hSw.cell cN (neF _ (Nat.le_refl _)); go_simp
          with_reducible rfl
        try simp only [Act.put, List.setIfInBounds_toArray, List.set_cons_zero, List.set_cons_succ]
        refine sink_take (i := 7) (oi := _) (v := ?_) rfl (by kernel_rfl) (by decide) (by kernel_rfl) (by kernel_rfl) (by kernel_rfl) (by kernel_rfl) (fun _ _ _ h => h) (by rfl) (fun wx hSw => ?_) hHeld ?_
        rotate_left
        · have qn := hSw.cell cN (neF _ (Nat.le_refl _)); go_simp
          with_reducible rfl
        try simp only [Act.put, List.setIfInBounds_toArray, List.set_cons_zero, List.set_cons_succ]
        refine sink_take (i := 8) (oi := _) (v := ?_) rfl (by kernel_rfl) (by decide) (by kernel_rfl) (by kernel_rfl) (by kernel_rfl) (by kernel_rfl) (fun _ _ _ h => h) (by rfl) (fun wx hSw => ?_) hHeld ?_
        rotate_left
        · have qn := hSw.cell cN (neF _ (Nat.le_refl _)); go_simp
          with_reducible rfl
        try simp only [Act.put, List.setIfInBounds_toArray, List.set_cons_zero, List.set_cons_succ]
        refine sink_take (i := 9) (oi := _) (v := ?_) rfl (by kernel_rfl) (by decide) (by kernel_rfl) (by kernel_rfl) (by kernel_rfl) (by kernel_rfl) (fun _ _ _ h => h) (by rfl) (fun wx hSw => ?_) hHeld ?_
        rotate_left
        · have qn := hSw.cell cN (neF _ (Nat.le_refl _)); go_simp
          with_reducible rfl
        try simp only [Act.put, List.setIfInBounds_toArray, List.set_cons_zero, List.set_cons_succ]
        refine sink_take (i := 10) (oi := _) (v := ?_) rfl (by kernel_rfl) (by decide) (by kernel_rfl) (by kernel_rfl) (by kernel_rfl) (by kernel_rfl) (fun _ _ _ h => h) (by rfl) (fun wx hSw => ?_) hHeld ?_
        rotate_left
        · have qn := hSw.cell cN (neF _ (Nat.le_refl _)); go_simp
          with_reducible rfl
        try simp only [Act.put, List.setIfInBounds_toArray, List.set_cons_zero, List.set_cons_succ]
        refine sink_take (i := 11) (oi := _) (v := ?_) rfl (by kernel_rfl) (by decide) (by kernel_rfl) (by kernel_rfl) (by kernel_rfl) (by kernel_rfl) (fun _ _ _ h => h) (by rfl) (fun wx hSw => ?_) hHeld ?_
        rotate_left
        · have qn := hSw.cell cN (neF _ (Nat.le_refl _)); go_simp
          with_reducible rfl
        try simp only [Act.put, List.setIfInBounds_toArray, List.set_cons_zero, List.set_cons_succ]
        refine sink_take (i := 12) (oi := _) (v := ?_) rfl (by kernel_rfl) (by decide) (by kernel_rfl) (by kernel_rfl) (by kernel_rfl) (by kernel_rfl) (fun _ _ _ h => h) (by rfl) (fun wx hSw => ?_) hHeld ?_
        rotate_left
        · have qn := hSw.cell cN (neF _ (Nat.le_refl _)); go_simp
          with_reducible rfl
        try simp only [Act.put, List.setIfInBounds_toArray, List.set_cons_zero, List.set_cons_succ]
        refine sink_take (i := 13) (oi := _) (v := ?_) rfl (by kernel_rfl) (by decide) (by kernel_rfl) (by kernel_rfl) (by kernel_rfl) (by kernel_rfl) (fun _ _ _ h => h) (by rfl) (fun wx hSw => ?_) hHeld ?_
        rotate_left
        · have qn := hSw.cell cN (neF _ (Nat.le_refl _)); go_simp
          with_reducible rfl
        try simp only [Act.put, List.setIfInBounds_toArray, List.set_cons_zero, List.set_cons_succ]
        refine sink_take (i := 14) (oi := _) (v := ?_) rfl (by kernel_rfl) (by decide) (by kernel_rfl) (by kernel_rfl) (by kernel_rfl) (by kernel_rfl) (fun _ _ _ h => h) (by rfl) (fun wx hSw => ?_) hHeld ?_
        rotate_left
        · have qn := hSw.cell cN (neF _ (Nat.le_refl _)); go_simp
          with_reducible rfl
        try simp only [Act.put, List.setIfInBounds_toArray, List.set_cons_zero, List.set_cons_succ]
        refine sink_take (i := 15) (oi := _) (v := ?_) rfl (by kernel_rfl) (by decide) (by kernel_rfl) (by kernel_rfl) (by kernel_rfl) (by kernel_rfl) (fun _ _ _ h => h) (by rfl) (fun wx hSw => ?_) hHeld ?_
        rotate_left
        · have qn := hSw.cell cN (neF _ (Nat.le_refl _)); go_simp
          with_reducible rfl
        try simp only [Act.put, List.setIfInBounds_toArray, List.set_cons_zero, List.set_cons_succ]
        refine sink_take (i := 16) (oi := _) (v := ?_) rfl (by kernel_rfl) (by decide) (by kernel_rfl) (by kernel_rfl) (by kernel_rfl) (by kernel_rfl) (fun _ _ _ h => h) (by rfl) (fun wx hSw => ?_) hHeld ?_
        rotate_left
        · have qn := hSw.cell cN (neF _ (Nat.le_refl _)); go_simp
          with_reducible rfl
        try simp only [Act.put, List.setIfInBounds_toArray, List.set_cons_zero, List.set_cons_succ]
        refine sink_take (i := 17) (oi := _) (v := ?_) rfl (by kernel_rfl) (by decide) (by kernel_rfl) (by kernel_rfl) (by kernel_rfl) (by kernel_rfl) (fun _ _ _ h => h) (by rfl) (fun wx hSw => ?_) hHeld ?_
        rotate_left
        · have qn := hSw.cell cN (neF _ (Nat.le_refl _)); go_simp
          with_reducible rfl
        try simp only [Act.put, List.setIfInBounds_toArray, List.set_cons_zero, List.set_cons_succ]
        refine sink_take (i := 18) (oi := _) (v := ?_) rfl (by kernel_rfl) (by decide) (by kernel_rfl) (by kernel_rfl) (by kernel_rfl) (by kernel_rfl) (fun _ _ _ h => h) (by rfl) (fun wx hSw => ?_) hHeld ?_
        rotate_left
        · have qn := hSw.cell cN (neF _ (Nat.le_refl _)); go_simp
          with_reducible rfl
        try simp only [Act.put, List.setIfInBounds_toArray, List.set_cons_zero, List.set_cons_succ]
        refine sink_take (i := 19) (oi := _) (v := ?_) rfl (by kernel_rfl) (by decide) (by kernel_rfl) (by kernel_rfl) (by kernel_rfl) (by kernel_rfl) (fun _ _ _ h => h) (by rfl) (fun wx hSw => ?_) hHeld ?_
        rotate_left
        · have qn := hSw.cell cN (neF _ (Nat.le_refl _)); go_simp
          with_reducible rfl
        try simp only [Act.put, List.setIfInBounds_toArray, List.set_cons_zero, List.set_cons_succ]
        refine sink_take (i := 20) (oi := _) (v := ?_) rfl (by kernel_rfl) (by decide) (by kernel_rfl) (by kernel_rfl) (by kernel_rfl) (by kernel_rfl) (fun _ _ _ h => h) (by rfl) (fun wx hSw => ?_) hHeld ?_
        rotate_left
        · have qn := hSw.cell cN (neF _ (Nat.le_refl _)); go_simp
          with_reducible rfl
        try simp only [Act.put, List.setIfInBounds_toArray, List.set_cons_zero, List.set_cons_succ]
        refine sink_take (i := 21) (oi := _) (v := ?_) rfl (by kernel_rfl) (by decide) (by kernel_rfl) (by kernel_rfl) (by kernel_rfl) (by kernel_rfl) (fun _ _ _ h => h) (by rfl) (fun wx hSw => ?_) hHeld ?_
        rotate_left
        · have qn := hSw.cell cN (neF _ (Nat.le_refl _)); go_simp
          with_reducible rfl
        try simp only [Act.put, List.setIfInBounds_toArray, List.set_cons_zero, List.set_cons_succ]
        refine sink_take (i := 22) (oi := _) (v := ?_) rfl (by kernel_rfl) (by decide) (by kernel_rfl) (by kernel_rfl) (by kernel_rfl) (by kernel_rfl) (fun _ _ _ h => h) (by rfl) (fun wx hSw => ?_) hHeld ?_
        rotate_left
        · have qn := hSw.cell cN (neF _ (Nat.le_refl _)); go_simp
          with_reducible rfl
        try simp only [Act.put, List.setIfInBounds_toArray, List.set_cons_zero, List.set_cons_succ]
        refine sink_take (i := 23) (oi := _) (v := ?_) rfl (by kernel_rfl) (by decide) (by kernel_rfl) (by kernel_rfl) (by kernel_rfl) (by kernel_rfl) (fun _ _ _ h => h) (by rfl) (fun wx hSw => ?_) hHeld ?_
        rotate_left
        · have qn := hSw.cell cN (neF _ (Nat.le_refl _)); go_simp
          with_reducible rfl
        try simp only [Act.put, List.setIfInBounds_toArray, List.set_cons_zero, List.set_cons_succ]
        refine sink_ready (rs := [24]) (by kernel_rfl) (by simp) (ReadyL.cons (o := _) rfl (fun K hK => ?_) ReadyL.nil)
        go_simp
        refine hK.out _ _ (only_alloc hHeld _) (fun hHeld => ?_)
        clear hK K
        try simp only [Act.put, List.setIfInBounds_toArray, List.set_cons_zero, List.set_cons_succ]
        have hsz := F.lt
        have RB : Rd (wr.alloc (.cells #[.int .u8 (IntKind.u8.wrap ((nn : Int) / 16777216)), .int .u8 (IntKind.u8.wrap ((nn : Int) / 65536)), .int .u8 (IntKind.u8.wrap ((nn : Int) / 256)), .int .u8 (IntKind.u8.wrap (nn : Int))] 5)).drew (fun _ => True) (some ⟨wr.heap.size, 0, none⟩) (bs (be nn 4)) :=
          (rd_alloc wr 5 _ (0, 0) _ (be4_cells nn) _ trivial).drew
        have hle : (a.data.take (4 * k)).length ≤ 32 := by rw [List.length_take, headData_length]; omega
        refine sink_ready (rs := [25]) (by kernel_rfl) (by simp) (ReadyL.cons (o := _) rfl (fun K hK => ?_) ReadyL.nil)
        refine step_append_u8 (by rfl) _ _ (by rfl) (lb + 1) vv (a.data.take (4 * k)) (by rfl) (own.alloc _).drew (fun _ => True) (some ⟨wr.heap.size, 0, none⟩) 4 4 (be nn 4) (by rfl) (be_length _ _) RB (by omega) (by simp; omega) ?_; intro v3 w3 own3 g3 hx3
        refine hK.out _ _ (only_trans (only_drew (only_alloc (only_refl _ _) _)) g3) (fun hHeld => ?_)
        clear hK K
        try simp only [Act.put, List.setIfInBounds_toArray, List.set_cons_zero, List.set_cons_succ]
        have F3 := ((F.alloc (.cells #[.int .u8 (IntKind.u8.wrap ((nn : Int) / 16777216)), .int .u8 (IntKind.u8.wrap ((nn : Int) / 65536)), .int .u8 (IntKind.u8.wrap ((nn : Int) / 256)), .int .u8 (IntKind.u8.wrap (nn : Int))] 5)).drew).grown g3 (neF _ (Nat.le_refl _))
        have G3 := ((G.alloc (.cells #[.int .u8 (IntKind.u8.wrap ((nn : Int) / 16777216)), .int .u8 (IntKind.u8.wrap ((nn : Int) / 65536)), .int .u8 (IntKind.u8.wrap ((nn : Int) / 256)), .int .u8 (IntKind.u8.wrap (nn : Int))] 5)).drew).grown g3 (neF _ (Nat.le_of_lt hlt2))
        have HT2 := HT.out
        rw [Int.toNat_natCast] at HT2
        rw [HT2] at own3
        clear HT2
        have b3 : Below w.heap.size w w3 := bw.trans (Below.trans ((Below.refl w.heap.size wr).alloc bw.size _).drew ⟨g3.os, g3.tape, g3.output, g3.size, fun x hx => g3.block x (by have := bw.size; simp; omega) (neF x (by omega))⟩)
        refine sink_last (by kernel_rfl) rfl (by kernel_rfl) (by kernel_rfl) (fun K hK => ?_)
        go_simp
        refine hK.out _ _ ?_
        clear hK K
        try simp only [Act.put, List.setIfInBounds_toArray, List.set_cons_zero, List.set_cons_succ]
        go_wp2_with fail
        go_roundw
        case rel => exact ⟨k + 1, v3, by omega, rfl, by go_num, G3, F3, own3, b3⟩
        case measure => simp [intOf]; omega
      · obtain rfl : k = 8 := by omega
        have q5 : wr.cell? ⟨w.heap.size, 5, none⟩ = some (.int .i64 a.nu) := G.cell 5
        rw [List.take_of_length_le (by rw [headData_length]; omega)] at own
        obtain ⟨A, c, rfl, _⟩ := own.form
        have rd := own.rd (P := fun _ => True) fun _ _ _ _ => trivial
        have ik : ¬ (8 : Int) < 8 := by omega
        go_wp2_with fail
        have RG := rput_good 1 a.nu.toNat 0 A c a.data _ wr (by omega) (by omega) (by omega) (by rw [headData_length]; omega) rd
        rw [show ((a.nu.toNat : Nat) : Int) = a.nu from Int.toNat_of_nonneg hnu0] at RG
        refine RG.mono ?_
        rintro r w9 ⟨⟨v9, rfl, own9⟩, b9⟩
        obtain ⟨A9, c9, rfl, hc9⟩ := own9.form
        go_wp2
        go_ret2
        exact ⟨A9, c9, rfl, own9.mono (by have := bw.size; omega), hc9, bw.trans (b9.mono bw.size)⟩
  · rw [decide_eq_false ok] at RC
    rw [show a.put = ([], 2) from hd_put_bad ok]
    have HR := hide RC
    clear RC ok
    go_enter Tryz.func31, Tryz.ntmps31
    go_wp2_with fail
    refine HR.out.mono ?_
    rintro e w2 ⟨rfl, b1⟩
    go_wp2
    go_ret2
    exact ⟨none, 0, rfl, OwnB.nil _ _, Nat.le_refl _, b0.trans (b1.mono b0.size)⟩
end Go.Proofs.YtdkcjmpikmnedaaGreat
