/- The digest in plain Lean: words, rounds, blocks, padding; in parts. No program in sight. -/
import Derived.Test.YtdkcjmpikmnedaaDoorBits
namespace Go.Proofs.YtdkcjmpikmnedaaDoor

/-- The eight words. -/
structure Wds where
  a : B32
  b : B32
  c : B32
  d : B32
  e : B32
  f : B32
  g : B32
  h : B32
def Wds.ws (s : Wds) : List B32 := [s.a, s.b, s.c, s.d, s.e, s.f, s.g, s.h]
def rot (x : B32) (n : Nat) : B32 := (x >>> n) ||| (x <<< (32 - n))
def sg0 (x : B32) : B32 := rot x 7 ^^^ rot x 18 ^^^ (x >>> 3)
def sg1 (y : B32) : B32 := rot y 17 ^^^ rot y 19 ^^^ (y >>> 10)
/-- A word of four bytes. -/
def bew (p q r s : B8) : B32 := ((p.setWidth 32 <<< 24 ||| q.setWidth 32 <<< 16) ||| r.setWidth 32 <<< 8) ||| s.setWidth 32
def nextW (m : List B8) (l : List B32) : B32 :=
  if l.length < 16 then bew (m.getD (4 * l.length) 0) (m.getD (4 * l.length + 1) 0) (m.getD (4 * l.length + 2) 0) (m.getD (4 * l.length + 3) 0)
  else l.getD (l.length - 16) 0 + l.getD (l.length - 7) 0 + sg0 (l.getD (l.length - 15) 0) + sg1 (l.getD (l.length - 2) 0)
def sch (m : List B8) : Nat → List B32
  | 0 => []
  | n + 1 => sch m n ++ [nextW m (sch m n)]
def rks : List B32 := [0x428a2f98#32, 0x71374491#32, 0xb5c0fbcf#32, 0xe9b5dba5#32, 0x3956c25b#32, 0x59f111f1#32, 0x923f82a4#32, 0xab1c5ed5#32, 0xd807aa98#32, 0x12835b01#32, 0x243185be#32, 0x550c7dc3#32, 0x72be5d74#32, 0x80deb1fe#32, 0x9bdc06a7#32, 0xc19bf174#32, 0xe49b69c1#32, 0xefbe4786#32, 0x0fc19dc6#32, 0x240ca1cc#32, 0x2de92c6f#32, 0x4a7484aa#32, 0x5cb0a9dc#32, 0x76f988da#32, 0x983e5152#32, 0xa831c66d#32, 0xb00327c8#32, 0xbf597fc7#32, 0xc6e00bf3#32, 0xd5a79147#32, 0x06ca6351#32, 0x14292967#32, 0x27b70a85#32, 0x2e1b2138#32, 0x4d2c6dfc#32, 0x53380d13#32, 0x650a7354#32, 0x766a0abb#32, 0x81c2c92e#32, 0x92722c85#32, 0xa2bfe8a1#32, 0xa81a664b#32, 0xc24b8b70#32, 0xc76c51a3#32, 0xd192e819#32, 0xd6990624#32, 0xf40e3585#32, 0x106aa070#32, 0x19a4c116#32, 0x1e376c08#32, 0x2748774c#32, 0x34b0bcb5#32, 0x391c0cb3#32, 0x4ed8aa4a#32, 0x5b9cca4f#32, 0x682e6ff3#32, 0x748f82ee#32, 0x78a5636f#32, 0x84c87814#32, 0x8cc70208#32, 0x90befffa#32, 0xa4506ceb#32, 0xbef9a3f7#32, 0xc67178f2#32]
def wFirst : Wds := ⟨0x6a09e667#32, 0xbb67ae85#32, 0x3c6ef372#32, 0xa54ff53a#32, 0x510e527f#32, 0x9b05688c#32, 0x1f83d9ab#32, 0x5be0cd19#32⟩
def rndT (s : Wds) (k w : B32) : B32 := s.h + (rot s.e 6 ^^^ rot s.e 11 ^^^ rot s.e 25) + (s.g ^^^ (s.e &&& (s.f ^^^ s.g))) + k + w
def rndU (s : Wds) : B32 := (rot s.a 2 ^^^ rot s.a 13 ^^^ rot s.a 22) + ((s.a &&& s.b) ||| (s.c &&& (s.a ||| s.b)))
def rnd (s : Wds) (k w : B32) : Wds := ⟨rndT s k w + rndU s, s.a, s.b, s.c, s.d + rndT s k w, s.e, s.f, s.g⟩
def rnds (W : List B32) (s : Wds) : Nat → Wds
  | 0 => s
  | n + 1 => rnd (rnds W s n) (rks.getD n 0) (W.getD n 0)
def Wds.add (s v : Wds) : Wds := ⟨s.a + v.a, s.b + v.b, s.c + v.c, s.d + v.d, s.e + v.e, s.f + v.f, s.g + v.g, s.h + v.h⟩
/-- One block. -/
def comp (s : Wds) (m : List B8) : Wds := s.add (rnds (sch m 64) s 64)
/-- n blocks of a text. -/
def blkN (s : Wds) (l : List B8) : Nat → Wds
  | 0 => s
  | n + 1 => comp (blkN s l n) ((l.drop (64 * n)).take 64)
def blks (s : Wds) (l : List B8) : Wds := blkN s l (l.length / 64)
/-- What is left behind the whole blocks. -/
def left (l : List B8) : List B8 := l.drop (64 * (l.length / 64))
def zeros (n : Nat) : Nat := (119 - n % 64) % 64
/-- The length in bits, eight bytes. -/
def len8 (n : Nat) : List B8 := (List.range 8).map fun i => BitVec.ofNat 8 ((8 * n % 18446744073709551616) / 2 ^ (8 * (7 - i)))
def tail (n : Nat) : List B8 := [0x80#8] ++ List.replicate (zeros n) 0#8 ++ len8 n
def pad (l : List B8) : List B8 := l ++ tail l.length
def Wds.key (s : Wds) : List B8 := (List.range 32).map fun i => ((s.ws.getD (i / 4) 0) >>> (24 - i % 4 * 8)).setWidth 8
/-- P1.1: the digest. -/
def digest (l : List B8) : List B8 := (blks wFirst (pad l)).key

theorem sch_length (m : List B8) (n : Nat) : (sch m n).length = n := by
  induction n with
  | zero => rfl
  | succ n ih => simp [sch, ih]
theorem sch_get (m : List B8) (n : Nat) : ∀ k i, i < n → n ≤ k → (sch m k).getD i 0 = (sch m n).getD i 0 := by
  intro k i hi hk
  induction k with
  | zero => omega
  | succ k ih =>
    by_cases e : n = k + 1
    · rw [e]
    · rw [sch, List.getD_eq_getElem?_getD, List.getElem?_append_left (by rw [sch_length]; omega), ← List.getD_eq_getElem?_getD]; exact ih (by omega)
theorem ch_eq (e f g : B32) : (e &&& f) ^^^ (~~~e &&& g) = g ^^^ (e &&& (f ^^^ g)) := by
  apply BitVec.eq_of_getLsbD_eq
  intro i hi
  simp only [BitVec.getLsbD_xor, BitVec.getLsbD_and, BitVec.getLsbD_not, hi, decide_true, Bool.true_and]
  cases e.getLsbD i <;> cases f.getLsbD i <;> cases g.getLsbD i <;> rfl
theorem maj_eq (a b c : B32) : ((a &&& b) ^^^ (a &&& c)) ^^^ (b &&& c) = (a &&& b) ||| (c &&& (a ||| b)) := by
  apply BitVec.eq_of_getLsbD_eq
  intro i hi
  simp only [BitVec.getLsbD_xor, BitVec.getLsbD_and, BitVec.getLsbD_or]
  cases a.getLsbD i <;> cases b.getLsbD i <;> cases c.getLsbD i <;> rfl
theorem next_eq (p q r s : B32) : p + q + r + s = ((p + r) + q) + s := by
  rw [BitVec.add_assoc p q r, BitVec.add_comm q r, ← BitVec.add_assoc]

theorem take_getD (m : List B8) (i : Nat) (h : i < 64) : (m.take 64).getD i 0 = m.getD i 0 := by
  rw [List.getD_eq_getElem?_getD, List.getD_eq_getElem?_getD, List.getElem?_take, if_pos h]
theorem sch_take (m : List B8) (n : Nat) : sch (m.take 64) n = sch m n := by
  induction n with
  | zero => rfl
  | succ n ih =>
    have e : nextW (m.take 64) (sch m n) = nextW m (sch m n) := by
      unfold nextW
      rw [sch_length]
      by_cases h : n < 16
      · rw [if_pos h, if_pos h, take_getD _ _ (by omega), take_getD _ _ (by omega), take_getD _ _ (by omega), take_getD _ _ (by omega)]
      · rw [if_neg h, if_neg h]
    show sch (m.take 64) n ++ [nextW (m.take 64) (sch (m.take 64) n)] = sch m n ++ [nextW m (sch m n)]
    rw [ih, e]
theorem comp_take (s : Wds) (m : List B8) : comp s (m.take 64) = comp s m := by unfold comp; rw [sch_take]

/-! ### Parts -/
theorem blkN_take (s : Wds) (l m : List B8) (n : Nat) (h : 64 * n ≤ l.length) : blkN s (l ++ m) n = blkN s l n := by
  induction n with
  | zero => rfl
  | succ n ih =>
    rw [blkN, blkN, ih (by omega), List.drop_append_of_le_length (by omega), List.take_append_of_le_length (by simp; omega)]
theorem blkN_add (s : Wds) (l : List B8) (i n : Nat) : blkN s l (i + n) = blkN (blkN s l i) (l.drop (64 * i)) n := by
  induction n with
  | zero => rfl
  | succ n ih =>
    rw [← Nat.add_assoc, blkN, blkN, ih, List.drop_drop, Nat.mul_add]
theorem left_append (l m : List B8) : left (left l ++ m) = left (l ++ m) := by
  have e : left l ++ m = (l ++ m).drop (64 * (l.length / 64)) := by unfold left; rw [List.drop_append_of_le_length (by omega)]
  have e2 : (left l ++ m).length = l.length - 64 * (l.length / 64) + m.length := by simp [left]
  rw [left, e2, e, left, List.drop_drop, List.length_append]
  congr 1
  omega
theorem blks_append (s : Wds) (l m : List B8) : blks (blks s l) (left l ++ m) = blks s (l ++ m) := by
  have e : left l ++ m = (l ++ m).drop (64 * (l.length / 64)) := by unfold left; rw [List.drop_append_of_le_length (by omega)]
  have e2 : (left l ++ m).length = l.length - 64 * (l.length / 64) + m.length := by simp [left]
  rw [blks, blks, ← blkN_take s l m _ (by omega), e2, e, ← blkN_add, blks, List.length_append]
  congr 1
  omega
theorem left_length (l : List B8) : (left l).length = l.length % 64 := by simp [left]; omega
theorem zeros_mod (n : Nat) : zeros (n % 64) = zeros n := by simp [zeros]
theorem tail_length (n : Nat) : (tail n).length = 9 + zeros n := by simp [tail, len8]; omega
theorem pad_length (l : List B8) : (pad l).length % 64 = 0 ∧ l.length < (pad l).length ∧ (pad l).length ≤ l.length + 72 := by
  rw [pad, List.length_append, tail_length, zeros]; omega
theorem key_length (s : Wds) : s.key.length = 32 := by simp [Wds.key]
theorem left_zero (l : List B8) (h : l.length < 64) : left l = l ∧ ∀ s, blks s l = s := by
  have : l.length / 64 = 0 := by omega
  simp [left, blks, this, blkN]
end Go.Proofs.YtdkcjmpikmnedaaDoor
