/- The walks through crc and its reference. -/
import Derived.Test.YtdkcjmpikmnedaaGreatMem
import Derived.Test.YtdkcjmpikmnedaaGreatCrcMath
import Derived.Test.YtdkcjmpikmnedaaGreatSync
namespace Go.Proofs.YtdkcjmpikmnedaaGreat
open Go.RowKit


/-- The reference's bit. -/
theorem low_bit (x : B32) : bits .and .u32 (x.toNat : Int) 1 = if x.getLsbD 0 then 1 else 0 := by
  have h : (1 : Int) = (((1#32) : B32).toNat : Int) := by decide
  rw [h, u32_and, BitVec.toNat_and]
  have e : x.getLsbD 0 = decide (x.toNat % 2 = 1) := by rw [BitVec.getLsbD, Nat.testBit_zero]
  rw [e, show (1#32).toNat = 2 ^ 1 - 1 by decide, Nat.and_two_pow_sub_one_eq_mod]
  by_cases h1 : x.toNat % 2 = 1
  · simp [h1]
  · simp [h1]; omega
theorem stp_yes (p x : B32) (h : (bits .and .u32 (x.toNat : Int) 1 == 1) = true) : bits .xor .u32 ((x.toNat : Int) / 2) (p.toNat : Int) = ((stp p x).toNat : Int) := by
  rw [u32_half, u32_xor]
  rw [low_bit] at h
  unfold stp
  split at h <;> simp_all
theorem stp_no (p x : B32) (h : (bits .and .u32 (x.toNat : Int) 1 == 1) = false) : (x.toNat : Int) / 2 = ((stp p x).toNat : Int) := by
  rw [u32_half]
  rw [low_bit] at h
  unfold stp
  split at h <;> simp_all

set_option maxHeartbeats 400000 in
/-- The reference's Of. -/
theorem of_any (p s : B32) (A : Option Addr) (c : Nat) (l : List B8) (P : Nat → Prop) (w : World) (hr : Rd w P A (bs l)) (hl : l.length ≤ 140737488351232) :
    Calls Tryz.prog 121 #[.int .u32 p.toNat, .int .u32 s.toNat, .slice A l.length c] w fun e w' => e = .returned (.int .u32 (crcOf p s l).toNat) ∧ w = w' := by
  go_enter Tryz.func121, Tryz.ntmps121
  go_wp2
  go_loop [7, 8] (fun v i => ∃ k : Nat, k ≤ l.length ∧ i = .int .i64 k ∧ v = .int .u32 (run_ p (~~~ s) (l.take k)).toNat) (fun _ i => l.length - (intOf i).toNat)
  case atStart => exact ⟨0, Nat.zero_le _, rfl, val_u32 (u32_not s)⟩
  case round =>
    obtain ⟨k, hk, rfl, rfl⟩ := hrel
    by_cases hlt : k < l.length
    · obtain ⟨b, off, rfl, _, hc⟩ := hr (by simp; omega)
      have h0 := hc k (by simpa using hlt)
      rw [bs_get] at h0
      clear hc hr
      have hs := run_snoc p (~~~ s) (l.take k) l[k]
      rw [← take_snoc l k hlt] at hs
      have HS := hide hs
      clear hs
      generalize hq : run_ p (~~~ s) (l.take k) = q at *
      have HQ := hide hq
      clear hq
      go_wp2
      go_loop [7, 9] (fun v i => ∃ j : Nat, j ≤ 8 ∧ i = .int .i64 j ∧ v = .int .u32 (stpN p j (q ^^^ l[k].setWidth 32)).toNat) (fun _ i => 8 - (intOf i).toNat)
      case atStart => exact ⟨0, by omega, rfl, val_u32 (by rw [u32_of_u8, u32_xor]; rfl)⟩
      case round =>
        obtain ⟨j, hj, rfl, rfl⟩ := hrel
        have hs := stpN_succ' p j (q ^^^ l[k].setWidth 32)
        have HS2 := hide hs
        clear hs
        generalize hq : stpN p j (q ^^^ l[k].setWidth 32) = x at *
        have HQ2 := hide hq
        clear hq
        by_cases hj8 : j < 8
        · go_wp2
          all_goals go_round
          case rel => exact ⟨j + 1, by omega, by go_num, by rw [HS2.out]; first | exact val_u32 (stp_yes p x ‹_›) | exact val_u32 (stp_no p x ‹_›)⟩
          case measure => simp [intOf]; omega
          case rel => exact ⟨j + 1, by omega, by go_num, by rw [HS2.out]; first | exact val_u32 (stp_yes p x ‹_›) | exact val_u32 (stp_no p x ‹_›)⟩
          case measure => simp [intOf]; omega
        · go_wp2
          go_round
          case rel => exact ⟨k + 1, by omega, by go_num, by rw [HS.out, upd, ← HQ2.out, show j = 8 by omega]⟩
          case measure => simp [intOf]; omega
    · go_wp2
      go_ret
      refine ⟨?_, rfl⟩
      rw [List.take_of_length_le (by omega)]
      exact congrArg Ending.returned (val_u32 (u32_not _))

/-! ### The program -/
theorem enter_fill (args : Array Value) (w : World) : (callFunc 152 args).run Tryz.prog w = .ok (.enter 152 args) w := by kernel_rfl

/-- A table's cells: made, the polynomial, the Once (its word, the lock's state and sema), the rows. -/
def tabCells (p : B32) (done state : Int) (rows : List Value) : Array Value :=
  (.bool true :: .int .u32 p.toNat :: .int .u32 done :: .int .i32 state :: .int .u32 0 :: rows).toArray
def rowsTo (p : B32) (k : Nat) (rows : List Value) : List Value := (List.range k).map (fun i => .int .u32 (tab p i).toNat) ++ rows.drop k
theorem tabCells_row (p : B32) (d s : Int) (rows : List Value) (k : Nat) : (tabCells p d s rows)[5 + k]? = rows[k]? := by
  unfold tabCells
  rw [List.getElem?_toArray, show 5 + k = k + 1 + 1 + 1 + 1 + 1 by omega]
  simp only [List.getElem?_cons_succ]
theorem tabCells_set (p : B32) (d s : Int) (rows : List Value) (k : Nat) (u : Value) : (tabCells p d s rows).setIfInBounds (5 + k) u = tabCells p d s (rows.set k u) := by
  unfold tabCells
  rw [List.setIfInBounds_toArray, show 5 + k = k + 1 + 1 + 1 + 1 + 1 by omega]
  simp only [List.set_cons_succ]
theorem rowsTo_get (p : B32) (k : Nat) (rows : List Value) (h : k < rows.length) : ∃ u, (rowsTo p k rows)[k]? = some u := by
  unfold rowsTo
  rw [List.getElem?_append_right (by simp)]
  exact ⟨rows[k], by simp [h]⟩
theorem rowsTo_set (p : B32) (k : Nat) (rows : List Value) (h : k < rows.length) : (rowsTo p k rows).set k (.int .u32 (tab p k).toNat) = rowsTo p (k + 1) rows := by
  unfold rowsTo
  rw [List.set_append_right _ _ (by simp), List.range_succ, List.map_append, List.append_assoc]
  congr 1
  rw [show k - (List.map (fun i => Value.int IntKind.u32 ↑(BitVec.toNat (tab p i))) (List.range k)).length = 0 by simp, List.drop_eq_getElem_cons h]
  rfl
theorem rowsTo_at (p : B32) (n : Nat) (rows : List Value) (k : Nat) (h : k < n) : (rowsTo p n rows)[k]? = some (.int .u32 (tab p k).toNat) := by
  unfold rowsTo
  rw [List.getElem?_append_left (by simpa using h)]
  simp [h]
theorem index_of (q : B32) (c : B8) : bits .xor .u8 ((q.toNat : Int) % 256) (c.toNat : Int) = (((q.setWidth 8 ^^^ c).toNat : Nat) : Int) := by
  have h : (q.toNat : Int) % 256 = ((q.setWidth 8).toNat : Int) := by rw [BitVec.toNat_setWidth]; omega
  rw [h, u8_xor]
theorem prog_step (p x : B32) : bits .xor .u32 ((x.toNat : Int) / 2) (bits .and .u32 (p.toNat : Int) (-bits .and .u32 (x.toNat : Int) 1 % 4294967296)) = ((stp p x).toNat : Int) := by
  rw [low_bit, u32_half]
  unfold stp
  by_cases h : x.getLsbD 0 = true
  · rw [if_pos h, if_pos h, show (-1 : Int) % 4294967296 = (((BitVec.allOnes 32) : B32).toNat : Int) by decide, u32_and, BitVec.and_allOnes, u32_xor]
  · rw [if_neg h, if_neg h, show (-0 : Int) % 4294967296 = ((0#32 : B32).toNat : Int) by decide, u32_and, u32_xor, BitVec.and_zero]

set_option maxRecDepth 100000 in
set_option maxHeartbeats 400000 in
theorem fill_any (g : Nat) (p : B32) (rows : List Value) (w : World) (hrows : 256 ≤ rows.length) (hb : Blk w g 236 (tabCells p 0 1 rows)) :
    Calls Tryz.prog 152 #[.pointer (some ⟨g, 0, none⟩)] w fun e w' => e = .returned (.tuple #[]) ∧ Blk w' g 236 (tabCells p 0 1 (rowsTo p 256 rows)) ∧ w.grownBy w' (some g) := by
  go_enter Tryz.func152, Tryz.ntmps152
  go_wp2
  go_loopw [4] (fun i wr => ∃ k : Nat, k ≤ 256 ∧ i = .int .i64 k ∧ Blk wr g 236 (tabCells p 0 1 (rowsTo p k rows)) ∧ w.grownBy wr (some g)) (fun i _ => 256 - (intOf i).toNat)
  case atStart => exact ⟨0, by omega, rfl, hb, only_refl _ _⟩
  case round =>
    obtain ⟨k, hk, rfl, hbk, hg⟩ := hrel
    have hc1 : wr.cell? ⟨g, 1, none⟩ = some (.int .u32 p.toNat) := hbk.cell 1
    by_cases hlt : k < 256
    · obtain ⟨u, hu⟩ := rowsTo_get p k rows (by omega)
      have hcs : wr.cell? ⟨g, 5 + k, none⟩ = some u := by rw [hbk.cell, tabCells_row, hu]
      have hfs : wr.frozen? ⟨g, 5 + k, none⟩ = false := hbk.frozen _
      have HU := hide hu
      clear hu
      go_wp2
      go_loop [3, 9] (fun v i => ∃ j : Nat, j ≤ 8 ∧ i = .int .i64 j ∧ v = .int .u32 (stpN p j (BitVec.ofNat 32 k)).toNat) (fun _ i => 8 - (intOf i).toNat)
      case atStart => exact ⟨0, by omega, rfl, val_u32 (by rw [stpN, BitVec.toNat_ofNat]; omega)⟩
      case round =>
        obtain ⟨j, hj, rfl, rfl⟩ := hrel
        have HS := hide (stpN_succ' p j (BitVec.ofNat 32 k))
        generalize hq : stpN p j (BitVec.ofNat 32 k) = x at *
        have HQ2 := hide hq
        clear hq
        by_cases hj8 : j < 8
        · go_wp2
          go_round
          case rel => exact ⟨j + 1, by omega, by go_num, by rw [HS.out]; exact val_u32 (prog_step p x)⟩
          case measure => simp [intOf]; omega
        · go_wp2
          go_roundw
          case rel =>
            have e : x = tab p k := by rw [← HQ2.out, show j = 8 by omega]; rfl
            refine ⟨k + 1, by omega, by go_num, ?_, only_setCell hg (.inl rfl) _⟩
            have hs := hbk.set_ (5 + k) (.int .u32 x.toNat)
            rw [tabCells_set, e, rowsTo_set _ _ _ (by omega)] at hs
            rw [e]
            exact hs
          case measure => simp [intOf]; omega
    · go_wp2
      go_end0
      obtain rfl : k = 256 := by omega
      exact ⟨rfl, hbk, hg⟩

theorem new_any (p : B32) (w : World) : Calls Tryz.prog 119 #[.int .u32 p.toNat] w fun e w' => e = .returned (.pointer (some ⟨w.heap.size, 0, none⟩)) ∧ w.alloc (.cells (tabCells p 0 0 (List.replicate 256 (.int .u32 0))) 236) = w' := by
  go_enter Tryz.func119, Tryz.ntmps119
  go_wp2
  go_ret
  have e : ((Tryz.zeroCells236.setIfInBounds 0 (Value.bool true)).setIfInBounds 1 (Value.int IntKind.u32 ↑(BitVec.toNat p))) = tabCells p 0 0 (List.replicate 256 (.int .u32 0)) := by kernel_rfl
  exact ⟨rfl, by rw [← e]⟩

/-- A table at block g, its rows made. -/
def IsFull (w : World) (g : Nat) (p : B32) : Prop := ∃ rows, Blk w g 236 (tabCells p 1 0 (rowsTo p 256 rows))
/-- A table at block g, its rows made or not yet. -/
def IsTab (w : World) (g : Nat) (p : B32) : Prop := IsFull w g p ∨ ∃ rows, 256 ≤ rows.length ∧ Blk w g 236 (tabCells p 0 0 rows)

set_option maxRecDepth 100000 in
set_option maxHeartbeats 400000 in
theorem tadd_gen (g : Nat) (p s : B32) (A : Option Addr) (c : Nat) (l : List B8) (w0 : World) (hc0 : w0.cell? ⟨g, 0, none⟩ = some (.bool true)) (hr0 : Rd w0 (· ≠ g) A (bs l)) (hl : l.length ≤ 140737488351232)
    (hdo : Calls Tryz.prog 151 #[.pointer (some ⟨g, 2, none⟩), .func (.func 152) #[.pointer (some ⟨g, 0, none⟩)] #[]] w0 fun e w' => e = .returned (.tuple #[]) ∧ IsFull w' g p ∧ w0.grownBy w' (some g)) :
    Calls Tryz.prog 120 #[.pointer (some ⟨g, 0, none⟩), .int .u32 s.toNat, .slice A l.length c] w0 fun e w' => e = .returned (.int .u32 (crcOf p s l).toNat) ∧ IsFull w' g p ∧ w0.grownBy w' (some g) := by
  have hmf : ∀ (fn : Fn) (first cap : Array Value) (w : World), (Instr.makeFunc fn first cap).run Tryz.prog w = .ok (.func fn first cap) w := fun _ _ _ _ => rfl
  have HDO := hide hdo
  clear hdo
  go_enter Tryz.func120, Tryz.ntmps120
  go_wp2_with (go_at_call 151; refine HDO.out.mono ?_; rintro e w ⟨rfl, hfull, hgr⟩)
  have hr : Rd w (· ≠ g) A (bs l) := hr0.only hgr (fun b hb => by simpa using hb)
  obtain ⟨rows, hb⟩ := id hfull
  go_loop [7, 29] (fun v i => ∃ k : Nat, k ≤ l.length ∧ i = .int .i64 k ∧ v = .int .u32 (run_ p (~~~ s) (l.take k)).toNat) (fun _ i => l.length - (intOf i).toNat)
  case atStart => exact ⟨0, Nat.zero_le _, rfl, val_u32 (u32_not s)⟩
  case round =>
    obtain ⟨k, hk, rfl, rfl⟩ := hrel
    by_cases hlt : k < l.length
    · obtain ⟨b, off, rfl, hne, hc⟩ := hr (by simp; omega)
      have h0 := hc k (by simpa using hlt)
      rw [bs_get] at h0
      clear hc hr
      have hs := run_snoc p (~~~ s) (l.take k) l[k]
      rw [← take_snoc l k hlt] at hs
      have HS := hide hs
      clear hs
      generalize hq : run_ p (~~~ s) (l.take k) = q at *
      have HQ := hide hq
      clear hq
      have hx := index_of q l[k]
      obtain ⟨i, hi⟩ : ∃ i, i = (q.setWidth 8 ^^^ l[k]).toNat := ⟨_, rfl⟩
      rw [← hi] at hx
      have hi256 : i < 256 := by have := (q.setWidth 8 ^^^ l[k]).isLt; omega
      have HI := hide hi
      clear hi
      have hci : w.cell? ⟨g, 5 + i, none⟩ = some (.int .u32 (tab p i).toNat) := by rw [hb.cell, tabCells_row, rowsTo_at p 256 rows i hi256]
      go_wp2
      go_round
      case rel => exact ⟨k + 1, by omega, by go_num, by rw [HS.out, upd_tab, ← HI.out]; exact val_u32 (by rw [u32_shr q 8 256 rfl, u32_xor])⟩
      case measure => simp [intOf]; omega
    · go_wp2
      go_ret
      refine ⟨?_, hfull, hgr⟩
      rw [List.take_of_length_le (by omega)]
      exact congrArg Ending.returned (val_u32 (u32_not _))

theorem IsFull.tab {w : World} {g : Nat} {p : B32} (h : IsFull w g p) : IsTab w g p := .inl h
theorem IsFull.only {w w' : World} {g : Nat} {p : B32} {row : Option Nat} (h : IsFull w g p) (hk : w.grownBy w' row) (hne : some g ≠ row) : IsFull w' g p := by
  obtain ⟨rows, hb⟩ := h
  exact ⟨rows, hb.grown hk hne⟩
theorem IsTab.only {w w' : World} {g : Nat} {p : B32} {row : Option Nat} (h : IsTab w g p) (hk : w.grownBy w' row) (hne : some g ≠ row) : IsTab w' g p := by
  rcases h with h | ⟨rows, hr, hb⟩
  · exact .inl (h.only hk hne)
  · exact .inr ⟨rows, hr, hb.grown hk hne⟩
theorem IsTab.lt {w : World} {g : Nat} {p : B32} (h : IsTab w g p) : g < w.heap.size := by
  rcases h with ⟨rows, hb⟩ | ⟨rows, _, hb⟩
  · exact hb.lt
  · exact hb.lt
theorem IsTab.below {w w' : World} {g : Nat} {p : B32} (h : IsTab w g p) (hk : Below w.heap.size w w') : IsTab w' g p := h.only (only_of_below hk none) (by simp)

/-- Add of a table, filled or not. -/
theorem tadd_any (g : Nat) (p s : B32) (A : Option Addr) (c : Nat) (l : List B8) (w : World) (ht : IsTab w g p) (hr : Rd w (· ≠ g) A (bs l)) (hl : l.length ≤ 140737488351232) :
    Calls Tryz.prog 120 #[.pointer (some ⟨g, 0, none⟩), .int .u32 s.toNat, .slice A l.length c] w fun e w' => e = .returned (.int .u32 (crcOf p s l).toNat) ∧ IsFull w' g p ∧ w.grownBy w' (some g) := by
  rcases ht with ⟨rows, hb⟩ | ⟨rows, hrows, hb⟩
  · exact tadd_gen g p s A c l w (hb.cell 0) hr hl ((do_done _ _ _ (hb.cell 2)).mono fun e w' ⟨he, hw⟩ => ⟨he, hw ▸ ⟨rows, hb⟩, hw ▸ only_refl _ _⟩)
  · refine tadd_gen g p s A c l w (hb.cell 0) hr hl ?_
    have h1 : Blk (w.setCell ⟨g, 2 + 1, none⟩ (.int .i32 1)) g 236 (tabCells p 0 1 rows) := hb.set_ 3 (.int .i32 1)
    have hg1 : w.grownBy (w.setCell ⟨g, 2 + 1, none⟩ (.int .i32 1)) (some g) := only_setCell (only_refl _ _) (.inl rfl) _
    refine (do_first g 2 152 #[.pointer (some ⟨g, 0, none⟩)] w (fun w1 => Blk w1 g 236 (tabCells p 0 1 (rowsTo p 256 rows)) ∧ w.grownBy w1 (some g)) enter_fill (hb.cell 2) (hb.cell 3) (hb.frozen _)
      ((fill_any g p rows _ hrows h1).mono fun e w' ⟨he, hb', hg'⟩ => ⟨he, hb', only_trans hg1 hg'⟩) (fun w' ⟨hb', _⟩ => ⟨hb'.cell 2, hb'.cell 3, hb'.frozen _, hb'.frozen _⟩)).mono ?_
    rintro e w' ⟨rfl, w1, ⟨hb1, hg1'⟩, rfl⟩
    refine ⟨rfl, ⟨rows, ?_⟩, ?_⟩
    · exact ((hb1.drew).set_ 2 (.int .u32 1)).set_ 3 (.int .i32 0)
    · exact only_setCell (only_setCell (only_drew hg1') (.inl rfl) _) (.inl rfl) _

/-- A table that is not, and one that nobody made. -/
theorem tadd_nil (s : Int) (v : Value) (w : World) : Calls Tryz.prog 120 #[.pointer none, .int .u32 s, v] w fun e w' => e = .returned (.int .u32 0) ∧ w = w' := by
  go_enter Tryz.func120, Tryz.ntmps120
  go_wp2
  go_ret
  exact ⟨rfl, rfl⟩
theorem tadd_unmade (a : Addr) (s : Int) (v : Value) (w : World) (h : w.cell? a = some (.bool false)) : Calls Tryz.prog 120 #[.pointer (some a), .int .u32 s, v] w fun e w' => e = .returned (.int .u32 0) ∧ w = w' := by
  go_enter Tryz.func120, Tryz.ntmps120
  go_wp2
  go_ret
  exact ⟨rfl, rfl⟩

theorem isTab_new (p : B32) (w : World) : IsTab (w.alloc (.cells (tabCells p 0 0 (List.replicate 256 (.int .u32 0))) 236)) w.heap.size p :=
  .inr ⟨List.replicate 256 (.int .u32 0), Nat.le_of_eq List.length_replicate.symm, Blk.new _ _ _⟩
theorem castagnoli_val : (2197175160 : Int) = (castagnoli.toNat : Int) := by decide

/-- crc.Add, crc.Sum. -/
theorem add_any (s : B32) (A : Option Addr) (c : Nat) (l : List B8) (P : Nat → Prop) (w : World) (hr : Rd w P A (bs l)) (hl : l.length ≤ 140737488351232) :
    Calls Tryz.prog 82 #[.int .u32 s.toNat, .slice A l.length c] w fun e w' => e = .returned (.int .u32 (crcOf castagnoli s l).toNat) ∧ Below w.heap.size w w' := by
  have hcv := castagnoli_val
  go_enter Tryz.func82, Tryz.ntmps82
  go_wp2_with fail
  refine (new_any castagnoli w).mono ?_
  rintro e w1 ⟨rfl, hw⟩
  have ht : IsTab w1 w.heap.size castagnoli := hw ▸ isTab_new castagnoli w
  have hb1 : Below w.heap.size w w1 := hw ▸ (Below.refl _ _).alloc (Nat.le_refl _) _
  clear hw
  have hr1 : Rd w1 (· ≠ w.heap.size) A (bs l) := ((hr.imp (Q := (· < w.heap.size)) fun b hb _ => hb).below hb1 (fun b _ hb => hb)).imp fun b _ hb => by omega
  go_wp2_with fail
  refine (tadd_any w.heap.size castagnoli s A c l w1 ht hr1 hl).mono ?_
  rintro e w2 ⟨rfl, _, hg⟩
  go_wp2
  go_ret
  exact ⟨rfl, hb1.trans (below_of_only hg (Nat.le_refl _) hb1.size)⟩

theorem zero32 : (0 : Int) = (((0#32) : B32).toNat : Int) := rfl
theorem sum_any (A : Option Addr) (c : Nat) (l : List B8) (P : Nat → Prop) (w : World) (hr : Rd w P A (bs l)) (hl : l.length ≤ 140737488351232) :
    Calls Tryz.prog 48 #[.slice A l.length c] w fun e w' => e = .returned (.int .u32 (crcOf castagnoli 0#32 l).toNat) ∧ Below w.heap.size w w' := by
  go_enter Tryz.func48, Tryz.ntmps48
  go_wp2_with fail
  refine (add_any 0#32 A c l P w hr hl).mono ?_
  rintro e w2 ⟨rfl, hb⟩
  go_wp2
  go_ret
  exact ⟨rfl, hb⟩

/-! ### The reference's Add, Sum -/
theorem radd_any (s : B32) (A : Option Addr) (c : Nat) (l : List B8) (P : Nat → Prop) (w : World) (hr : Rd w P A (bs l)) (hl : l.length ≤ 140737488351232) :
    Calls Tryz.prog 83 #[.int .u32 s.toNat, .slice A l.length c] w fun e w' => e = .returned (.int .u32 (crcOf castagnoli s l).toNat) ∧ w = w' := by
  go_enter Tryz.func83, Tryz.ntmps83
  go_wp2_with fail
  refine (of_any castagnoli s A c l P w hr hl).mono ?_
  rintro e w2 ⟨rfl, rfl⟩
  go_wp2
  go_ret
  exact ⟨rfl, rfl⟩
theorem rsum_any (A : Option Addr) (c : Nat) (l : List B8) (P : Nat → Prop) (w : World) (hr : Rd w P A (bs l)) (hl : l.length ≤ 140737488351232) :
    Calls Tryz.prog 56 #[.slice A l.length c] w fun e w' => e = .returned (.int .u32 (crcOf castagnoli 0#32 l).toNat) ∧ w = w' := by
  go_enter Tryz.func56, Tryz.ntmps56
  go_wp2_with fail
  refine (radd_any 0#32 A c l P w hr hl).mono ?_
  rintro e w2 ⟨rfl, rfl⟩
  go_wp2
  go_ret
  exact ⟨rfl, rfl⟩
end Go.Proofs.YtdkcjmpikmnedaaGreat