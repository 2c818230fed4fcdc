/- The walks through sha's turned and block. -/
import Derived.Test.YtdkcjmpikmnedaaDoorShaMath
import Derived.Test.YtdkcjmpikmnedaaDoorSink
namespace Go.Proofs.YtdkcjmpikmnedaaDoor
open Go.RowKit
set_option linter.unusedSimpArgs false

theorem turn_and (n : Nat) (h0 : 0 < n) (h : n < 32) : bits .and .u64 (IntKind.u64.wrap (-(n : Int))) 31 = ((32 - n : Nat) : Int) := by
  have : ∀ m : Fin 32, 0 < m.val → bits .and .u64 (IntKind.u64.wrap (-(m.val : Int))) 31 = ((32 - m.val : Nat) : Int) := by decide
  exact this ⟨n, h⟩ h0
theorem m32_shl (x : B32) (k : Nat) : (x.toNat : Int) * 2 ^ k % 4294967296 = ((x <<< k).toNat : Int) := by
  rw [BitVec.toNat_shiftLeft, Nat.shiftLeft_eq, Int.natCast_emod, Int.natCast_mul, Int.natCast_pow, show ((2 ^ 32 : Nat) : Int) = 4294967296 by decide]
  rfl
theorem m32_shr (x : B32) (k : Nat) : (x.toNat : Int) / 2 ^ k = ((x >>> k).toNat : Int) := by
  rw [BitVec.toNat_ushiftRight, Nat.shiftRight_eq_div_pow, Int.natCast_ediv, Int.natCast_pow]
  rfl
theorem m32_add (a b : B32) : ((a.toNat : Int) + (b.toNat : Int)) % 4294967296 = ((a + b).toNat : Int) := by rw [BitVec.toNat_add]; omega
theorem rotl_any (x : B32) (n : Nat) (h0 : 0 < n) (h : n < 32) (w : World) :
    Calls Tryd.prog 37 #[.int .u32 x.toNat, .int .i64 (-(n : Int))] w fun e w' => e = .returned (.int .u32 (rot x n).toNat) ∧ w = w' := by
  have ht := turn_and n h0 h
  go_enter Tryd.func37, Tryd.ntmps37
  go_wp2
  go_ret
  refine ⟨congrArg Ending.returned (val_u32 ?_), rfl⟩
  rw [m32_shl, m32_shr, u32_or, show 32 - (32 - n) = n by omega, BitVec.or_comm]
  rfl
theorem turned_any (x : B32) (n : Nat) (h0 : 0 < n) (h : n < 32) (w : World) :
    Calls Tryd.prog 32 #[.int .u32 x.toNat, .int .i64 (n : Int)] w fun e w' => e = .returned (.int .u32 (rot x n).toNat) ∧ w = w' := by
  have ht : wrap64 (-(n : Int)) = -(n : Int) := by unfold wrap64; omega
  go_enter Tryd.func32, Tryd.ntmps32
  go_wp2_with fail
  refine (rotl_any x n h0 h w).mono ?_
  rintro e w2 ⟨rfl, rfl⟩
  go_wp2
  go_ret
  exact ⟨rfl, rfl⟩

/-! ### The words of a block -/
theorem u8_sh24 (c : B8) : (c.toNat : Int) * (16777216 : Int) = ((c.setWidth 32 <<< 24).toNat : Int) := by
  have h := c.isLt
  rw [← m32_shl, ← u32_of_u8]
  omega
theorem u8_sh16 (c : B8) : (c.toNat : Int) * (65536 : Int) = ((c.setWidth 32 <<< 16).toNat : Int) := by
  have h := c.isLt
  rw [← m32_shl, ← u32_of_u8]
  omega
theorem u8_sh8 (c : B8) : (c.toNat : Int) * (256 : Int) = ((c.setWidth 32 <<< 8).toNat : Int) := by
  have h := c.isLt
  rw [← m32_shl, ← u32_of_u8]
  omega
theorem or_u8 (x : B32) (c : B8) : bits .or .u32 (x.toNat : Int) (c.toNat : Int) = ((x ||| c.setWidth 32).toNat : Int) := by rw [u32_of_u8 c, u32_or]
theorem m32_shr3 (x : B32) : (x.toNat : Int) / (8 : Int) = ((x >>> 3).toNat : Int) := m32_shr x 3
theorem m32_shr10 (x : B32) : (x.toNat : Int) / (1024 : Int) = ((x >>> 10).toNat : Int) := m32_shr x 10
def w32 (l : List B32) : List Value := l.map fun c => .int .u32 (c.toNat : Int)
theorem w32_length (l : List B32) : (w32 l).length = l.length := by simp [w32]
theorem w32_at (l : List B32) (j : Nat) (h : j < l.length) : (w32 l)[j]? = some (.int .u32 ((l.getD j 0).toNat : Int)) := by simp [w32, h]
def schC (m : List B8) (k : Nat) : Array Value := (w32 (sch m k ++ List.replicate (64 - k) 0#32)).toArray
theorem schC_at (m : List B8) (k j : Nat) (h : j < k) : (schC m k)[j]? = some (.int .u32 (((sch m k).getD j 0).toNat : Int)) := by
  unfold schC
  rw [List.getElem?_toArray, w32_at _ _ (by simp [sch_length]; omega), List.getD_eq_getElem?_getD, List.getElem?_append_left (by rw [sch_length]; omega), ← List.getD_eq_getElem?_getD]
theorem schC_new (m : List B8) (k : Nat) (h : k < 64) : (schC m k)[k]? = some (.int .u32 0) := by
  unfold schC
  rw [List.getElem?_toArray, w32_at _ _ (by simp [sch_length]; omega), List.getD_eq_getElem?_getD, List.getElem?_append_right (by rw [sch_length]; omega)]
  rw [sch_length, List.getElem?_replicate, if_pos (by omega)]
  rfl
theorem schC_set (m : List B8) (k : Nat) (h : k < 64) : (schC m k).setIfInBounds k (.int .u32 ((nextW m (sch m k)).toNat : Int)) = schC m (k + 1) := by
  have e : List.replicate (64 - k) 0#32 = 0#32 :: List.replicate (64 - (k + 1)) 0#32 := by rw [show 64 - k = (64 - (k + 1)) + 1 by omega, List.replicate_succ]
  unfold schC
  rw [List.setIfInBounds_toArray, w32, w32, e, sch]
  congr 1
  rw [List.append_assoc, List.map_append, List.map_append, List.set_append_right _ _ (by simp [sch_length]), List.length_map, sch_length, Nat.sub_self]
  rfl
theorem bs_getD (l : List B8) (k : Nat) (h : k < (bs l).length) : (bs l)[k] = .int .u8 ((l.getD k 0).toNat : Int) := by
  rw [bs_get, List.getD_eq_getElem?_getD, List.getElem?_eq_getElem (by simpa using h)]
  rfl
def Wds.cs (s : Wds) : Array Value := (w32 s.ws).toArray
end Go.Proofs.YtdkcjmpikmnedaaDoor
