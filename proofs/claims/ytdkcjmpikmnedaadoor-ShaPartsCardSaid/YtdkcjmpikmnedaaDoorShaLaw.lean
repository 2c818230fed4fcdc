/- Keys held against each other, and the statements' awake. -/
import Derived.Test.YtdkcjmpikmnedaaDoorShaRefS
import Derived.Test.YtdkcjmpikmnedaaDoorShaAbc
import Derived.Test.YtdkcjmpikmnedaaDoorKit
import Derived.Laws.StructEq
import Derived.ChangeKeysEq
import Derived.Lib.SmallJoins
namespace Go.Proofs.YtdkcjmpikmnedaaDoor
open Go.RowKit
set_option linter.unusedSimpArgs false

theorem u8_plain : Tryd.prog.plainKey 5 = true := by kernel_rfl
theorem bytes_items (d : Nat) (xs ys : List B8) (w : World) : ∀ is : List Nat, (∀ i ∈ is, i < xs.length ∧ i < ys.length) →
    (Op.eqItems (d + 1) 5 1 (bs xs).toArray (bs ys).toArray is).run Tryd.prog w = .ok (decide (∀ i ∈ is, xs.getD i 0 = ys.getD i 0)) w
  | [], _ => by simp [Op.eqItems]
  | i :: is, h => by
    obtain ⟨h1, h2⟩ := h i (by simp)
    have ih := bytes_items d xs ys w is fun j hj => h j (by simp [hj])
    have p1 := run_part_plain (P := Tryd.prog) (w := w) u8_plain (xs := (bs xs).toArray) (off := i) (v := .int .u8 ((xs.getD i 0).toNat : Int)) (by rw [List.getElem?_toArray, List.getElem?_eq_getElem (by simpa using h1), bs_get]; simp [h1])
    have p2 := run_part_plain (P := Tryd.prog) (w := w) u8_plain (xs := (bs ys).toArray) (off := i) (v := .int .u8 ((ys.getD i 0).toNat : Int)) (by rw [List.getElem?_toArray, List.getElem?_eq_getElem (by simpa using h2), bs_get]; simp [h2])
    have p3 := run_equalIn_int (P := Tryd.prog) w d 5 .u8 .u8 ((xs.getD i 0).toNat : Int) ((ys.getD i 0).toNat : Int) Tryd.underlying5
    simp only [Op.eqItems, Sem.run_bind, Nat.mul_one, p1, p2, p3, Result.andThen_ok]
    by_cases e : xs.getD i 0 = ys.getD i 0
    · have e2 : (((xs.getD i 0).toNat : Int) == ((ys.getD i 0).toNat : Int)) = true := by rw [e]; simp
      rw [e2]
      simp only [Bool.not_true, Bool.false_eq_true, if_false, ih]
      congr 1
      exact decide_eq_decide.2 ⟨fun h j hj => by rcases List.mem_cons.1 hj with rfl | hj; exact e; exact h j hj, fun h j hj => h j (by simp [hj])⟩
    · have e2 : (((xs.getD i 0).toNat : Int) == ((ys.getD i 0).toNat : Int)) = false := ne_toNat' e
      rw [e2]
      have e3 : ¬ ∀ j ∈ i :: is, xs.getD j 0 = ys.getD j 0 := fun h => e (h i (by simp))
      rw [decide_eq_false e3]
      rfl
theorem u8_cells : Tryd.prog.cellsOf 5 = 1 := by kernel_rfl
theorem key_equal (xs ys : List B8) (hx : xs.length = 32) (hy : ys.length = 32) (w : World) : (binOp .eql 26 (.agg (bs xs).toArray) (.agg (bs ys).toArray)).run Tryd.prog w = .ok (.bool (decide (xs = ys))) w := by
  obtain ⟨i0, hi0, _, _, _⟩ := info_parts u8_info
  rw [run_eql_struct, run_equalIn_array w 9999 _ _ Tryd.underlying26 hi0, u8_cells, bytes_items 9998 xs ys w _ fun i hi => by have := List.mem_range.1 hi; omega]
  rw [Result.andThen_ok]
  congr 2
  refine decide_eq_decide.2 ⟨fun h => ?_, fun h => by rw [h]; exact fun _ _ => rfl⟩
  refine List.ext_getElem (by omega) fun i h1 h2 => ?_
  have := h i (List.mem_range.2 (by omega))
  simpa [h1, h2] using this
theorem key_cell {w : World} {g : Nat} {l : List B8} (h : Blk w g 26 (bs l).toArray) (i : Nat) : w.cell? ⟨g, i, none⟩ = (bs l)[i]? := by rw [h.cell]; simp

set_option maxRecDepth 100000 in
set_option maxHeartbeats 1600000 in
theorem awake_any (w : World) (hL : Laid w) : Calls Tryd.prog 8 #[] w fun e w' => e = .returned (.bool true) ∧ Below w.heap.size w w' := by
  have b1 : Below w.heap.size w (w.alloc (.cells (bs [97#8, 98#8, 99#8]).toArray 5 (3, 4))) := (Below.refl _ _).alloc (Nat.le_refl _) _
  have r1 : Rd (w.alloc (.cells (bs [97#8, 98#8, 99#8]).toArray 5 (3, 4))) (fun _ => True) (some ⟨w.heap.size, 0, none⟩) (bs [97#8, 98#8, 99#8]) := rd_alloc w 5 _ (3, 4) _ rfl _ trivial
  have HS := hide (shaSum_any (some ⟨w.heap.size, 0, none⟩) 3 [97#8, 98#8, 99#8] _ _ (hL.alloc _) r1 (by simp))
  have kc := fun (w : World) (C : Array Value) (n c : Nat) => Lib.run_convert_bytes_const (P := Tryd.prog) w 22 5 C n c Tryd.underlying22 Tryd.underlying5
  go_enter Tryd.func8, Tryd.ntmps8
  go_wp2_with fail
  refine HS.out.mono ?_
  rintro e w2 ⟨rfl, b2⟩
  have bb2 := b1.trans (b2.mono b1.size)
  have hL2 := (hL.alloc (.cells (bs [97#8, 98#8, 99#8]).toArray 5 (3, 4))).below b2 (by have := hL.lt; simp; omega)
  have n2 := bb2.size
  have dl : (bs (digest [97#8, 98#8, 99#8])).toArray.size = 32 := by rw [List.size_toArray, bs_length, digest_length]
  have HD := hide dl
  clear dl HS r1 b1 b2
  go_wp2_with (with_reducible refine stop_store_key ?_)
  unfold Stopped
  refine wpList_store_row rfl _ _ _ rfl w2.heap.size (bs (digest [97#8, 98#8, 99#8])).toArray (by rfl) (by rfl) _ _ (Blk.new w2 _ _) (by rw [HD.out]; kernel_rfl) (by rw [HD.out]; rfl) (all_oneCell_toArray (bs_one _)) ?_
  rw [World.setRow_alloc_new]
  have K3 := Blk.new w2 26 (bs (digest [97#8, 98#8, 99#8])).toArray
  have bb3 := bb2.alloc n2 (.cells (bs (digest [97#8, 98#8, 99#8])).toArray 26)
  have hL3 := hL2.alloc (.cells (bs (digest [97#8, 98#8, 99#8])).toArray 26)
  have n3 : w2.heap.size < (w2.alloc (.cells (bs (digest [97#8, 98#8, 99#8])).toArray 26)).heap.size := K3.lt
  clear bb2 hL2
  generalize w2.alloc (.cells (bs (digest [97#8, 98#8, 99#8])).toArray 26) = w3 at *
  generalize w2.heap.size = ka at *
  go_wp2_with fail
  refine (shaSum_any none 0 [] (fun _ => True) w3 hL3 Rd.nil (by simp)).mono ?_
  rintro e w4 ⟨rfl, b4⟩
  have K4 := K3.below b4 n3
  have bb4 := bb3.trans (b4.mono bb3.size)
  have dl : (bs (digest [])).toArray.size = 32 := by rw [List.size_toArray, bs_length, digest_length]
  have HD2 := hide dl
  clear dl K3 bb3 hL3
  have n4 := b4.size
  go_wp2_with (with_reducible refine stop_store_key ?_)
  unfold Stopped
  refine wpList_store_row rfl _ _ _ rfl w4.heap.size (bs (digest [])).toArray (by rfl) (by rfl) _ _ (Blk.new w4 _ _) (by rw [HD2.out]; kernel_rfl) (by rw [HD2.out]; rfl) (all_oneCell_toArray (bs_one _)) ?_
  rw [World.setRow_alloc_new]
  have N5 := Blk.new w4 26 (bs (digest [])).toArray
  have K5 := K4.alloc (.cells (bs (digest [])).toArray 26)
  have bb5 := bb4.alloc bb4.size (.cells (bs (digest [])).toArray 26)
  generalize w4.alloc (.cells (bs (digest [])).toArray 26) = w5 at *
  generalize w4.heap.size = na at *
  rw [abc_key] at K5
  rw [nil_key] at N5
  have a0 : w5.cell? ⟨ka, 0, none⟩ = some (.int .u8 186) := key_cell K5 0
  have a1 : w5.cell? ⟨ka, 1, none⟩ = some (.int .u8 120) := key_cell K5 1
  have a15 : w5.cell? ⟨ka, 15, none⟩ = some (.int .u8 35) := key_cell K5 15
  have a31 : w5.cell? ⟨ka, 31, none⟩ = some (.int .u8 173) := key_cell K5 31
  have c0 : w5.cell? ⟨na, 0, none⟩ = some (.int .u8 227) := key_cell N5 0
  have c31 : w5.cell? ⟨na, 31, none⟩ = some (.int .u8 85) := key_cell N5 31
  clear K5 N5 K4 bb4
  go_wp2
  go_ret
  exact ⟨rfl, bb5⟩
end Go.Proofs.YtdkcjmpikmnedaaDoor
