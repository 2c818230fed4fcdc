/- The operations on bytes and words as the model writes them (numbers with a wrap), said once as operations on bit vectors. Plain lemmas: no program in sight. -/
import Derived.Test.YtdkcjmpikmnedaaGreatProg
import Derived.WalkKit
import Derived.WalkSpells
import Derived.WalkLawsBesides
namespace Go.Proofs.YtdkcjmpikmnedaaGreat
open Go.RowKit

/-- A fact kept from the walk. -/
theorem hide {p : Prop} (h : p) : Hid p := h

abbrev B8 := BitVec 8
abbrev B32 := BitVec 32
abbrev B64 := BitVec 64

theorem ofInt_toNat {n : Nat} (x : BitVec n) : BitVec.ofInt n (x.toNat : Int) = x := by
  rw [BitVec.ofInt_natCast, BitVec.ofNat_toNat, BitVec.setWidth_eq]

section u32
variable (a b : B32)
theorem u32_lt : (a.toNat : Int) < 4294967296 := by have := a.isLt; omega
theorem u32_wrap (n : Nat) : IntKind.u32.wrap (n : Int) = ((BitVec.ofNat 32 n).toNat : Int) := by
  rw [IntKind.wrap_u32, BitVec.toNat_ofNat]; omega
theorem u32_wrap_int (n : Int) : IntKind.u32.wrap n = ((BitVec.ofInt 32 n).toNat : Int) := by
  rw [IntKind.wrap_u32, BitVec.toNat_ofInt]; omega
theorem u32_xor : bits .xor .u32 (a.toNat : Int) (b.toNat : Int) = ((a ^^^ b).toNat : Int) := by
  show IntKind.u32.wrap ((BitVec.ofInt 32 (a.toNat : Int) ^^^ BitVec.ofInt 32 (b.toNat : Int)).toNat : Int) = _
  rw [ofInt_toNat, ofInt_toNat, u32_wrap, BitVec.ofNat_toNat, BitVec.setWidth_eq]
theorem u32_and : bits .and .u32 (a.toNat : Int) (b.toNat : Int) = ((a &&& b).toNat : Int) := by
  show IntKind.u32.wrap ((BitVec.ofInt 32 (a.toNat : Int) &&& BitVec.ofInt 32 (b.toNat : Int)).toNat : Int) = _
  rw [ofInt_toNat, ofInt_toNat, u32_wrap, BitVec.ofNat_toNat, BitVec.setWidth_eq]
theorem u32_or : bits .or .u32 (a.toNat : Int) (b.toNat : Int) = ((a ||| b).toNat : Int) := by
  show IntKind.u32.wrap ((BitVec.ofInt 32 (a.toNat : Int) ||| BitVec.ofInt 32 (b.toNat : Int)).toNat : Int) = _
  rw [ofInt_toNat, ofInt_toNat, u32_wrap, BitVec.ofNat_toNat, BitVec.setWidth_eq]
theorem u32_not : bits .xor .u32 IntKind.u32.max (a.toNat : Int) = ((~~~a).toNat : Int) := by
  have h : (IntKind.u32.max : Int) = ((BitVec.allOnes 32).toNat : Int) := by decide
  rw [h, u32_xor, BitVec.allOnes_xor]
theorem u32_add : IntKind.u32.wrap ((a.toNat : Int) + (b.toNat : Int)) = ((a + b).toNat : Int) := by
  rw [IntKind.wrap_u32, BitVec.toNat_add]; omega
theorem u32_half : (a.toNat : Int) / (2 : Int) = ((a >>> 1).toNat : Int) := by
  rw [BitVec.toNat_ushiftRight, Nat.shiftRight_eq_div_pow]; omega
theorem u32_shr (k : Nat) (m : Int) (hm : m = ((2 ^ k : Nat) : Int)) : (a.toNat : Int) / m = ((a >>> k).toNat : Int) := by
  rw [BitVec.toNat_ushiftRight, Nat.shiftRight_eq_div_pow, hm, Int.natCast_ediv]
theorem u32_of_u8 (c : B8) : (c.toNat : Int) = ((c.setWidth 32).toNat : Int) := by
  rw [BitVec.toNat_setWidth]; have := c.isLt; omega
theorem u8_of_u32 : IntKind.u8.wrap (a.toNat : Int) = ((a.setWidth 8).toNat : Int) := by
  rw [IntKind.wrap_u8, BitVec.toNat_setWidth]; omega
end u32

section u8
variable (a b : B8)
theorem u8_wrap (n : Nat) : IntKind.u8.wrap (n : Int) = ((BitVec.ofNat 8 n).toNat : Int) := by
  rw [IntKind.wrap_u8, BitVec.toNat_ofNat]; omega
theorem u8_wrap_int (n : Int) : IntKind.u8.wrap n = ((BitVec.ofInt 8 n).toNat : Int) := by
  rw [IntKind.wrap_u8, BitVec.toNat_ofInt]; omega
theorem u8_mod (n : Int) : n % 256 = ((BitVec.ofInt 8 n).toNat : Int) := by
  rw [BitVec.toNat_ofInt]; omega
theorem u8_xor : bits .xor .u8 (a.toNat : Int) (b.toNat : Int) = ((a ^^^ b).toNat : Int) := by
  show IntKind.u8.wrap ((BitVec.ofInt 8 (a.toNat : Int) ^^^ BitVec.ofInt 8 (b.toNat : Int)).toNat : Int) = _
  rw [ofInt_toNat, ofInt_toNat, u8_wrap, BitVec.ofNat_toNat, BitVec.setWidth_eq]
end u8

/-- A byte and a word as the model's values. -/
theorem ret_u32 {a b : B32} (h : a = b) : Ending.returned (.int .u32 (a.toNat : Int)) = .returned (.int .u32 (b.toNat : Int)) := by rw [h]
theorem val_u32 {a : Int} {b : B32} (h : a = (b.toNat : Int)) : Value.int .u32 a = .int .u32 (b.toNat : Int) := by rw [h]
theorem val_u8 {a : Int} {b : B8} (h : a = (b.toNat : Int)) : Value.int .u8 a = .int .u8 (b.toNat : Int) := by rw [h]
end Go.Proofs.YtdkcjmpikmnedaaGreat
