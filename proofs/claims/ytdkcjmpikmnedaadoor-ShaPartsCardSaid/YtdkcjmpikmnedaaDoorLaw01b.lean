/- The walks through ShaNone and ShaTwo. -/
import Derived.Test.YtdkcjmpikmnedaaDoorLaw01a
namespace Go.Proofs.YtdkcjmpikmnedaaDoor
open Go.RowKit
set_option linter.unusedSimpArgs false

theorem key_neq_same (xs : List B8) (hx : xs.length = 32) (w : World) : (binOp .neq 26 (.agg (bs xs).toArray) (.agg (bs xs).toArray)).run Tryd.prog w = .ok (.bool false) w := by
  have h := key_equal xs xs hx hx w
  rw [run_eql_struct] at h
  rw [run_neq_struct]
  generalize (Op.equalIn 10000 26 (.agg (bs xs).toArray) (.agg (bs xs).toArray)).run Tryd.prog w = r at *
  cases r with
  | ok b w' =>
    simp only [Result.andThen_ok, decide_true] at h ⊢
    injection h with h1 h2
    injection h1 with h1
    rw [h1, h2]
    rfl
  | halt x w' => simp [Result.andThen] at h

theorem key_equalIn (xs ys : List B8) (hx : xs.length = 32) (hy : ys.length = 32) (w : World) : (Op.equalIn 10000 26 (.agg (bs xs).toArray) (.agg (bs ys).toArray)).run Tryd.prog w = .ok (decide (xs = ys)) w := by
  have h := key_equal xs ys hx hy w
  rw [run_eql_struct] at h
  generalize (Op.equalIn 10000 26 (.agg (bs xs).toArray) (.agg (bs ys).toArray)).run Tryd.prog w = r at *
  cases r with
  | ok b w' =>
    simp only [Result.andThen_ok] at h
    injection h with h1 h2
    injection h1 with h1
    rw [h1, h2]
  | halt x w' => simp [Result.andThen] at h
theorem none_equal (w : World) : (Op.equalIn 10000 26 (.agg (bs [0#8, 0#8, 0#8, 0#8, 0#8, 0#8, 0#8, 0#8, 0#8, 0#8, 0#8, 0#8, 0#8, 0#8, 0#8, 0#8, 0#8, 0#8, 0#8, 0#8, 0#8, 0#8, 0#8, 0#8, 0#8, 0#8, 0#8, 0#8, 0#8, 0#8, 0#8, 0#8]).toArray) (.agg #[.int .u8 0, .int .u8 0, .int .u8 0, .int .u8 0, .int .u8 0, .int .u8 0, .int .u8 0, .int .u8 0, .int .u8 0, .int .u8 0, .int .u8 0, .int .u8 0, .int .u8 0, .int .u8 0, .int .u8 0, .int .u8 0, .int .u8 0, .int .u8 0, .int .u8 0, .int .u8 0, .int .u8 0, .int .u8 0, .int .u8 0, .int .u8 0, .int .u8 0, .int .u8 0, .int .u8 0, .int .u8 0, .int .u8 0, .int .u8 0, .int .u8 0, .int .u8 0])).run Tryd.prog w = .ok true w := key_equalIn nokey nokey rfl rfl w
/-- The cells of no hash. -/
def zhC : Array Value := (.pointer none :: .slice none 0 0 :: .int .u64 0 :: .int .u32 0 :: .int .i32 0 :: .int .u32 0 :: .bool false :: bs nokey).toArray
set_option maxRecDepth 100000 in
theorem shaNone_any (A : Option Addr) (c : Nat) (l : List B8) (w : World) (hL : Laid w) :
    Calls Tryd.prog 5 #[.slice A l.length c] w fun e w' => e = .returned (.bool true) ∧ Below w.heap.size w w' := by
  have n0 := hL.lt
  by_cases hl : 3000 < l.length
  · have hli : (3000 : Int) < (l.length : Int) := by omega
    go_enter Tryd.func5, Tryd.ntmps5
    go_wp2_with fail
    refine (awake_any w hL).mono ?_
    rintro e w1 ⟨rfl, b1⟩
    go_wp2
    go_ret
    exact ⟨rfl, b1⟩
  · have hli : ¬ (3000 : Int) < (l.length : Int) := by omega
    go_enter Tryd.func5, Tryd.ntmps5
    go_wp2_with fail
    refine (awake_any w hL).mono ?_
    rintro e w1 ⟨rfl, b1⟩
    have n1 := b1.size
    have Z2 := Blk.new w1 48 zhC
    have q2 : (w1.alloc (.cells zhC 48)).heap.size = w1.heap.size + 1 := by simp
    have T3 := Blk.new (w1.alloc (.cells zhC 48)) 32 #[.pointer none, .pointer (some ⟨w1.heap.size, 0, none⟩)]
    rw [q2] at T3
    have Z3 := Z2.alloc (.cells #[.pointer none, .pointer (some ⟨w1.heap.size, 0, none⟩)] 32)
    have b3 := (b1.alloc n1 (.cells zhC 48)).alloc (by simp; omega) (.cells #[.pointer none, .pointer (some ⟨w1.heap.size, 0, none⟩)] 32)
    clear q2 Z2
    have EQ := none_equal
    go_wp2_with fail
    go_loopw [4] (fun i wr => ∃ k : Nat, k ≤ 2 ∧ i = .int .i64 k ∧ Blk wr w1.heap.size 48 zhC ∧ Blk wr (w1.heap.size + 1) 32 #[.pointer none, .pointer (some ⟨w1.heap.size, 0, none⟩)] ∧ Below w.heap.size w wr) (fun i _ => 2 - (intOf i).toNat)
    case atStart => exact ⟨0, by omega, rfl, Z3, T3, b3⟩
    case round =>
      clear Z3 T3 b3
      obtain ⟨k, hk, rfl, Z, T, bb⟩ := hrel
      have nz := T.lt
      have z0 : wr.cell? ⟨w1.heap.size, 0, none⟩ = some (.pointer none) := Z.cell 0
      have t0 : wr.cell? ⟨w1.heap.size + 1, 0, none⟩ = some (.pointer none) := T.cell 0
      have t1 : wr.cell? ⟨w1.heap.size + 1, 1, none⟩ = some (.pointer (some ⟨w1.heap.size, 0, none⟩)) := T.cell 1
      have HN := hide (show (bs nokey).toArray.size = 32 from rfl)
      match k, hk with
      | 0, _ =>
        go_wp2_with fail
        refine (write_nil _ wr).mono ?_
        rintro e w3 ⟨rfl, rfl⟩
        go_wp2_with fail
        refine (sum_nil wr).mono ?_
        rintro e w3 ⟨rfl, b3⟩
        have Z3 := Z.below b3 (by omega)
        have T3 := T.below b3 nz
        have bb3 := bb.trans (b3.mono bb.size)
        go_wp2_with fail
        go_roundw
        case rel => exact ⟨1, by omega, rfl, Z3, T3, bb3⟩
        case measure => decide
      | 1, _ =>
        go_wp2_with fail
        refine (write_none ⟨w1.heap.size, 0, none⟩ _ wr z0).mono ?_
        rintro e w3 ⟨rfl, rfl⟩
        go_wp2_with fail
        refine (sum_none ⟨w1.heap.size, 0, none⟩ wr z0 (by show w1.heap.size < _; omega)).mono ?_
        rintro e w3 ⟨rfl, b3⟩
        have Z3 := Z.below b3 (by omega)
        have T3 := T.below b3 nz
        have bb3 := bb.trans (b3.mono bb.size)
        go_wp2_with fail
        go_roundw
        case rel => exact ⟨2, by omega, rfl, Z3, T3, bb3⟩
        case measure => decide
      | 2, _ =>
        go_wp2
        go_ret
        exact ⟨rfl, bb⟩
end Go.Proofs.YtdkcjmpikmnedaaDoor
