/- CRC in plain Lean: one step, eight steps, a row of bytes; by table as by bits; in parts; linear; a burst is seen. No program in sight. -/
import Derived.Test.YtdkcjmpikmnedaaGreatBits
namespace Go.Proofs.YtdkcjmpikmnedaaGreat

/-- One bit's step. -/
def stp (p x : B32) : B32 := (x >>> 1) ^^^ (if x.getLsbD 0 then p else 0#32)
def stpN (p : B32) : Nat → B32 → B32
  | 0, x => x
  | n + 1, x => stpN p n (stp p x)
/-- A byte's step. -/
def upd (p x : B32) (c : B8) : B32 := stpN p 8 (x ^^^ c.setWidth 32)
/-- The inner word behind a row of bytes. -/
def run_ (p x : B32) (l : List B8) : B32 := l.foldl (upd p) x
/-- P2.1: the sum. -/
def crcOf (p s : B32) (l : List B8) : B32 := ~~~ run_ p (~~~ s) l
def castagnoli : B32 := 0x82F63B78#32
/-- A table's row. -/
def tab (p : B32) (i : Nat) : B32 := stpN p 8 (BitVec.ofNat 32 i)

theorem stpN_succ' (p : B32) (n : Nat) : ∀ x, stpN p (n + 1) x = stp p (stpN p n x) := by
  induction n with
  | zero => intro x; rfl
  | succ n ih => intro x; show stpN p (n + 1) (stp p x) = _; rw [ih]; rfl
theorem stpN_add (p : B32) (m n : Nat) : ∀ x, stpN p (m + n) x = stpN p n (stpN p m x) := by
  induction m with
  | zero => intro x; simp [stpN]
  | succ m ih => intro x; rw [Nat.succ_add]; exact ih _

theorem xor4 (a b c d : B32) : (a ^^^ b) ^^^ (c ^^^ d) = (a ^^^ c) ^^^ (b ^^^ d) := by
  rw [BitVec.xor_assoc, BitVec.xor_assoc, ← BitVec.xor_assoc b c d, BitVec.xor_comm b c, BitVec.xor_assoc c b d]
theorem stp_xor (p x y : B32) : stp p (x ^^^ y) = stp p x ^^^ stp p y := by
  unfold stp
  rw [BitVec.ushiftRight_xor_distrib, BitVec.getLsbD_xor, xor4]
  congr 1
  cases x.getLsbD 0 <;> cases y.getLsbD 0 <;> simp
theorem stpN_xor (p : B32) (n : Nat) : ∀ x y, stpN p n (x ^^^ y) = stpN p n x ^^^ stpN p n y := by
  induction n with
  | zero => intro x y; rfl
  | succ n ih => intro x y; show stpN p n (stp p (x ^^^ y)) = _; rw [stp_xor, ih]; rfl
theorem stp_zero (p : B32) : stp p 0#32 = 0#32 := by simp [stp]
theorem stpN_zero (p : B32) (n : Nat) : stpN p n 0#32 = 0#32 := by
  induction n with
  | zero => rfl
  | succ n ih => show stpN p n (stp p 0#32) = _; rw [stp_zero, ih]
/-- Where the lowest n bits are not set, n steps only shift. -/
theorem stpN_low (p : B32) (n : Nat) : ∀ x : B32, (∀ i, i < n → x.getLsbD i = false) → stpN p n x = x >>> n := by
  induction n with
  | zero => intro x _; simp [stpN]
  | succ n ih =>
    intro x h
    have h0 : stp p x = x >>> 1 := by
      have h00 := h 0 (by omega)
      unfold stp
      rw [h00]
      simp
    show stpN p n (stp p x) = _
    rw [h0, ih, ← BitVec.shiftRight_add, Nat.add_comm]
    intro i hi
    rw [BitVec.getLsbD_ushiftRight]
    exact h _ (by omega)
/-- A byte's step by its table. -/
theorem upd_tab (p x : B32) (c : B8) : upd p x c = (x >>> 8) ^^^ tab p ((x.setWidth 8 ^^^ c).toNat) := by
  have hsplit : x ^^^ c.setWidth 32 = (x &&& 0xFFFFFF00#32) ^^^ (BitVec.ofNat 32 ((x.setWidth 8 ^^^ c).toNat)) := by
    have e : BitVec.ofNat 32 ((x.setWidth 8 ^^^ c).toNat) = (x &&& 0xFF#32) ^^^ c.setWidth 32 := by
      apply BitVec.eq_of_getLsbD_eq
      intro i hi
      rw [BitVec.getLsbD_ofNat, BitVec.getLsbD_xor, BitVec.getLsbD_and, BitVec.getLsbD_setWidth, ← BitVec.getLsbD, BitVec.getLsbD_xor, BitVec.getLsbD_setWidth]
      have hm : (0xFF#32).getLsbD i = decide (i < 8) := by
        have : ∀ j : Fin 32, (0xFF#32).getLsbD j.val = decide (j.val < 8) := by decide
        exact this ⟨i, hi⟩
      rw [hm]
      by_cases h8 : i < 8
      · simp [hi, h8]
      · simp [hi, h8, BitVec.getLsbD_of_ge c i (by omega)]
    rw [e, ← BitVec.xor_assoc]
    congr 1
    apply BitVec.eq_of_getLsbD_eq
    intro i hi
    rw [BitVec.getLsbD_xor, BitVec.getLsbD_and, BitVec.getLsbD_and]
    have hm : ((0xFFFFFF00#32).getLsbD i ^^ (0xFF#32).getLsbD i) = true := by
      have : ∀ j : Fin 32, ((0xFFFFFF00#32).getLsbD j.val ^^ (0xFF#32).getLsbD j.val) = true := by decide
      exact this ⟨i, hi⟩
    revert hm
    cases x.getLsbD i <;> cases (0xFFFFFF00#32).getLsbD i <;> cases (0xFF#32).getLsbD i <;> simp
  unfold upd tab
  rw [hsplit, stpN_xor]
  congr 1
  rw [stpN_low]
  · apply BitVec.eq_of_getLsbD_eq
    intro i hi
    rw [BitVec.getLsbD_ushiftRight, BitVec.getLsbD_ushiftRight, BitVec.getLsbD_and]
    by_cases h : 8 + i < 32
    · have : ∀ j : Fin 32, 8 + j.val < 32 → (0xFFFFFF00#32).getLsbD (8 + j.val) = true := by decide
      rw [this ⟨i, hi⟩ h, Bool.and_true]
    · rw [BitVec.getLsbD_of_ge x (8 + i) (by omega), Bool.false_and]
  · intro i hi
    rw [BitVec.getLsbD_and]
    have : ∀ j : Fin 8, (0xFFFFFF00#32).getLsbD j.val = false := by decide
    rw [this ⟨i, hi⟩, Bool.and_false]

theorem run_append (p x : B32) (l m : List B8) : run_ p x (l ++ m) = run_ p (run_ p x l) m := List.foldl_append ..
theorem run_snoc (p x : B32) (l : List B8) (c : B8) : run_ p x (l ++ [c]) = upd p (run_ p x l) c := by rw [run_append]; rfl
theorem crc_parts (p s : B32) (l m : List B8) : crcOf p (crcOf p s l) m = crcOf p s (l ++ m) := by
  unfold crcOf; rw [run_append, BitVec.not_not]
theorem crc_nil (p s : B32) : crcOf p s [] = s := by unfold crcOf run_; simp

/-- Rows of bytes, xored byte by byte. -/
def xorl (l m : List B8) : List B8 := List.zipWith (· ^^^ ·) l m
theorem upd_xor (p x y : B32) (c d : B8) : upd p (x ^^^ y) (c ^^^ d) = upd p x c ^^^ upd p y d := by
  unfold upd
  rw [← stpN_xor, xor4]
  congr 2
theorem run_xor (p : B32) : ∀ (l m : List B8) (x y : B32), l.length = m.length → run_ p (x ^^^ y) (xorl l m) = run_ p x l ^^^ run_ p y m := by
  intro l
  induction l with
  | nil => intro m x y h; cases m with | nil => rfl | cons _ _ => simp at h
  | cons c l ih =>
    intro m x y h
    cases m with
    | nil => simp at h
    | cons d m =>
      show run_ p (upd p (x ^^^ y) (c ^^^ d)) (xorl l m) = _
      rw [upd_xor, ih _ _ _ (by simpa using h)]; rfl
theorem run_zeros (p : B32) (n : Nat) : run_ p 0#32 (List.replicate n 0#8) = 0#32 := by
  induction n with
  | zero => rfl
  | succ n ih =>
    rw [List.replicate_succ]
    show run_ p (upd p 0#32 0#8) _ = _
    have : upd p 0#32 0#8 = 0#32 := by simp [upd, stpN_zero]
    rw [this, ih]
theorem crc_diff (p s : B32) (l m : List B8) (h : l.length = m.length) : crcOf p s l ^^^ crcOf p s m = run_ p 0#32 (xorl l m) := by
  have h0 : (0#32) = ~~~ s ^^^ ~~~ s := by simp
  rw [h0, run_xor p l m _ _ h]
  unfold crcOf
  generalize run_ p (~~~ s) l = a
  generalize run_ p (~~~ s) m = b
  apply BitVec.eq_of_getLsbD_eq
  intro i hi
  simp [hi]
theorem xorl_self (l : List B8) : xorl l l = List.replicate l.length 0#8 := by
  induction l with
  | nil => rfl
  | cons c l ih => show (c ^^^ c) :: xorl l l = _; rw [ih, List.length_cons, List.replicate_succ]; simp
/-- P2.3: of three rows of one length and their xor the four sums have no odd bit. -/
theorem crc_four (p s : B32) (a b c : List B8) (hb : a.length = b.length) (hc : a.length = c.length) :
    crcOf p s a ^^^ crcOf p s b ^^^ crcOf p s c ^^^ crcOf p s (xorl (xorl a b) c) = 0#32 := by
  have hl : (xorl a b).length = a.length := by simp [xorl, hb]
  rw [BitVec.xor_assoc, crc_diff p s a b hb, crc_diff p s c (xorl (xorl a b) c) (by simp [xorl, ← hb, ← hc])]
  have e : xorl c (xorl (xorl a b) c) = xorl a b := by
    have : (xorl a b).length = c.length := by rw [hl, hc]
    revert this
    generalize xorl a b = q
    clear hl
    induction c generalizing q with
    | nil => intro h; cases q with | nil => rfl | cons _ _ => simp at h
    | cons x c ih =>
      intro h
      cases q with
      | nil => simp at h
      | cons y q =>
        show (x ^^^ (y ^^^ x)) :: xorl c (xorl q c) = _
        have : xorl c (xorl q c) = q := by
          have hh : q.length = c.length := by simpa using h
          clear ih h hb hc
          induction c generalizing q with
          | nil => cases q with | nil => rfl | cons _ _ => simp at hh
          | cons x c ih => cases q with
            | nil => simp at hh
            | cons y q => show (x ^^^ (y ^^^ x)) :: xorl c (xorl q c) = _; rw [ih q (by simpa using hh)]; congr 1; rw [BitVec.xor_comm y x, ← BitVec.xor_assoc, BitVec.xor_self, BitVec.zero_xor]
        rw [this]; congr 1; rw [BitVec.xor_comm y x, ← BitVec.xor_assoc, BitVec.xor_self, BitVec.zero_xor]
  rw [e, BitVec.xor_self]

/-! ### A burst is seen -/
/-- The step over whole numbers. -/
def nstp (p x : Nat) : Nat := x / 2 ^^^ (if x % 2 = 1 then p else 0)
def nstpN (p : Nat) : Nat → Nat → Nat
  | 0, x => x
  | n + 1, x => nstpN p n (nstp p x)
theorem nstpN_add (p m n : Nat) : ∀ x, nstpN p (m + n) x = nstpN p n (nstpN p m x) := by
  induction m with
  | zero => intro x; simp [nstpN]
  | succ m ih => intro x; rw [Nat.succ_add]; exact ih _
theorem stp_nat (p x : B32) : (stp p x).toNat = nstp p.toNat x.toNat := by
  unfold stp nstp
  rw [BitVec.toNat_xor, BitVec.toNat_ushiftRight, Nat.shiftRight_eq_div_pow]
  have : x.getLsbD 0 = decide (x.toNat % 2 = 1) := by
    rw [BitVec.getLsbD, Nat.testBit_zero]
  rw [this]
  by_cases h : x.toNat % 2 = 1 <;> simp [h]
theorem stpN_nat (p : B32) (n : Nat) : ∀ x, (stpN p n x).toNat = nstpN p.toNat n x.toNat := by
  induction n with
  | zero => intro x; rfl
  | succ n ih => intro x; show (stpN p n (stp p x)).toNat = _; rw [ih, stp_nat]; rfl
theorem xor_mod2 (x y : Nat) : ((x ^^^ y) % 2 = 1) ↔ ((x % 2 = 1) ↔ ¬ (y % 2 = 1)) := by
  have h := Nat.testBit_xor (x := x) (y := y) (i := 0)
  rw [Nat.testBit_zero, Nat.testBit_zero, Nat.testBit_zero] at h
  by_cases hx : x % 2 = 1 <;> by_cases hy : y % 2 = 1 <;> simp_all
theorem nstp_xor (p x y : Nat) : nstp p (x ^^^ y) = nstp p x ^^^ nstp p y := by
  unfold nstp
  have hd : (x ^^^ y) / 2 = x / 2 ^^^ y / 2 := by
    have := Nat.xor_div_two_pow (a := x) (b := y) (n := 1)
    simpa using this
  rw [hd]
  have h4 : ∀ a b c d : Nat, (a ^^^ b) ^^^ (c ^^^ d) = (a ^^^ c) ^^^ (b ^^^ d) := by
    intro a b c d
    rw [Nat.xor_assoc, Nat.xor_assoc, ← Nat.xor_assoc b c d, Nat.xor_comm b c, Nat.xor_assoc c b d]
  have hm := xor_mod2 x y
  by_cases hx : x % 2 = 1 <;> by_cases hy : y % 2 = 1
  · have : ¬ (x ^^^ y) % 2 = 1 := by rw [hm]; simp [hx, hy]
    rw [if_neg this, if_pos hx, if_pos hy, ← h4]; simp
  · have : (x ^^^ y) % 2 = 1 := by rw [hm]; simp [hx, hy]
    rw [if_pos this, if_pos hx, if_neg hy, ← h4]; simp
  · have : (x ^^^ y) % 2 = 1 := by rw [hm]; simp [hx, hy]
    rw [if_pos this, if_neg hx, if_pos hy, ← h4]; simp
  · have : ¬ (x ^^^ y) % 2 = 1 := by rw [hm]; simp [hx, hy]
    rw [if_neg this, if_neg hx, if_neg hy, ← h4]; simp
theorem nstpN_xor (p n : Nat) : ∀ x y, nstpN p n (x ^^^ y) = nstpN p n x ^^^ nstpN p n y := by
  induction n with
  | zero => intro x y; rfl
  | succ n ih => intro x y; show nstpN p n (nstp p (x ^^^ y)) = _; rw [nstp_xor, ih]; rfl
theorem nstpN_shift (p n : Nat) : ∀ x, nstpN p n (x * 2 ^ n) = x := by
  induction n with
  | zero => intro x; simp [nstpN]
  | succ n ih =>
    intro x
    have : nstp p (x * 2 ^ (n + 1)) = x * 2 ^ n := by
      unfold nstp
      have e : x * 2 ^ (n + 1) = (x * 2 ^ n) * 2 := by rw [Nat.pow_succ, Nat.mul_assoc]
      rw [e, Nat.mul_div_cancel _ (by omega), if_neg (by omega)]; simp
    show nstpN p n (nstp p _) = _
    rw [this, ih]
/-- A row of bytes as a number, the first byte lowest. -/
def num : List B8 → Nat
  | [] => 0
  | c :: l => c.toNat + num l * 2 ^ 8
theorem num_cons (c : B8) (l : List B8) : num (c :: l) = c.toNat ^^^ num l * 2 ^ 8 := by
  show c.toNat + num l * 2 ^ 8 = _
  have h : c.toNat < 2 ^ 8 := c.isLt
  have e := Nat.two_pow_add_eq_or_of_lt h (num l)
  rw [Nat.mul_comm] at e
  rw [Nat.add_comm, e]
  apply Nat.eq_of_testBit_eq
  intro i
  rw [Nat.testBit_or, Nat.testBit_xor, Nat.testBit_mul_two_pow]
  by_cases hi : 8 ≤ i
  · have : c.toNat.testBit i = false := Nat.testBit_lt_two_pow (Nat.lt_of_lt_of_le h (Nat.pow_le_pow_right (by omega) hi))
    simp [this, hi]
  · simp [hi]
theorem run_num (p : B32) : ∀ (l : List B8) (x : B32), (run_ p x l).toNat = nstpN p.toNat (8 * l.length) (x.toNat ^^^ num l) := by
  intro l
  induction l with
  | nil => intro x; simp [run_, num, nstpN]
  | cons c l ih =>
    intro x
    show (run_ p (upd p x c) l).toNat = _
    rw [ih, num_cons, ← Nat.xor_assoc, List.length_cons, show 8 * (l.length + 1) = 8 + 8 * l.length by omega, nstpN_add, nstpN_xor p.toNat 8, nstpN_shift]
    congr 2
    unfold upd
    rw [stpN_nat, BitVec.toNat_xor, BitVec.toNat_setWidth, Nat.mod_eq_of_lt (by have := c.isLt; omega)]
theorem nstp_ne (p x : Nat) (hp : 2 ^ 31 ≤ p) (hp' : p < 2 ^ 32) (hx : x < 2 ^ 32) (h0 : x ≠ 0) : nstp p x ≠ 0 ∧ nstp p x < 2 ^ 32 := by
  unfold nstp
  by_cases h : x % 2 = 1
  · rw [if_pos h]
    refine ⟨fun e => ?_, Nat.xor_lt_two_pow (by omega) hp'⟩
    have : x / 2 = p := by
      have h2 : (x / 2 ^^^ p) ^^^ p = 0 ^^^ p := by rw [e]
      rw [Nat.xor_assoc, Nat.xor_self] at h2
      simpa using h2
    omega
  · rw [if_neg h, Nat.xor_zero]; omega
theorem nstpN_ne (p : Nat) (hp : 2 ^ 31 ≤ p) (hp' : p < 2 ^ 32) (n : Nat) : ∀ x, x < 2 ^ 32 → x ≠ 0 → nstpN p n x ≠ 0 := by
  induction n with
  | zero => intro x _ h; exact h
  | succ n ih => intro x hx h0; have := nstp_ne p x hp hp' hx h0; exact ih _ this.2 this.1
/-- P2.3: turned bits within 32 that stand one behind the other are seen. -/
theorem crc_burst (p s : B32) (hp : 2 ^ 31 ≤ p.toNat) (l m : List B8) (h : l.length = m.length) (at_ t : Nat) (ht : t < 2 ^ 32) (ht0 : t ≠ 0) (hat : at_ + 32 ≤ 8 * l.length)
    (hx : num (xorl l m) = t * 2 ^ at_) : crcOf p s l ≠ crcOf p s m := by
  intro e
  have hd := crc_diff p s l m h
  rw [e, BitVec.xor_self] at hd
  have hn := run_num p (xorl l m) 0#32
  rw [← hd, hx] at hn
  have hl : (xorl l m).length = l.length := by simp [xorl, h]
  rw [hl, show 8 * l.length = at_ + (8 * l.length - at_) by omega, nstpN_add] at hn
  simp only [BitVec.toNat_ofNat, Nat.zero_mod, Nat.zero_xor] at hn
  rw [nstpN_shift] at hn
  exact nstpN_ne p.toNat hp p.isLt _ t ht ht0 hn.symm

/-! ### Turned bits, in plain Lean -/
def flipAt (m : List B8) (pos : Nat) : List B8 := m.set (pos / 8) (m.getD (pos / 8) 0#8 ^^^ (1#8 <<< (pos % 8)))
def flipsTo (l : List B8) (at_ t : Nat) : Nat → List B8
  | 0 => l
  | k + 1 => if t.testBit k then flipAt (flipsTo l at_ t k) (at_ + k) else flipsTo l at_ t k
theorem flipAt_length (m : List B8) (pos : Nat) : (flipAt m pos).length = m.length := by simp [flipAt]
theorem flipsTo_length (l : List B8) (at_ t : Nat) (k : Nat) : (flipsTo l at_ t k).length = l.length := by
  induction k with
  | zero => rfl
  | succ k ih => unfold flipsTo; split <;> simp [flipAt_length, ih]
theorem num_xorl_set : ∀ (l m : List B8) (i : Nat) (x : B8), l.length = m.length → i < m.length → num (xorl l (m.set i (m.getD i 0#8 ^^^ x))) = num (xorl l m) ^^^ x.toNat * 2 ^ (8 * i) := by
  intro l
  induction l with
  | nil => intro m i x h hi; simp at h; omega
  | cons c l ih =>
    intro m i x h hi
    cases m with
    | nil => simp at hi
    | cons d m =>
      cases i with
      | zero =>
        show num ((c ^^^ (d ^^^ x)) :: xorl l m) = num ((c ^^^ d) :: xorl l m) ^^^ _
        rw [num_cons, num_cons, Nat.mul_zero, Nat.pow_zero, Nat.mul_one]
        simp only [BitVec.toNat_xor]
        ac_rfl
      | succ i =>
        have hi' : i < m.length := by simpa using hi
        show num ((c ^^^ d) :: xorl l (m.set i (m.getD i 0#8 ^^^ x))) = num ((c ^^^ d) :: xorl l m) ^^^ _
        rw [num_cons, num_cons, ih m i x (by simpa using h) hi', Nat.xor_assoc]
        congr 1
        rw [show 8 * (i + 1) = 8 * i + 8 by omega, Nat.pow_add, ← Nat.mul_assoc]
        apply Nat.eq_of_testBit_eq
        intro j
        simp only [Nat.testBit_mul_two_pow, Nat.testBit_xor]
        by_cases hj : 8 ≤ j <;> simp [hj]
theorem num_flipAt (l m : List B8) (pos : Nat) (h : l.length = m.length) (hp : pos < 8 * m.length) : num (xorl l (flipAt m pos)) = num (xorl l m) ^^^ 2 ^ pos := by
  unfold flipAt
  rw [num_xorl_set l m _ _ h (by omega)]
  congr 1
  have h8 : pos % 8 < 8 := Nat.mod_lt _ (by omega)
  rw [BitVec.toNat_shiftLeft, Nat.shiftLeft_eq, Nat.mod_eq_of_lt]
  · rw [show (1#8).toNat = 1 from rfl, Nat.one_mul, ← Nat.pow_add]; congr 1; omega
  · rw [show (1#8).toNat = 1 from rfl, Nat.one_mul]; exact Nat.pow_lt_pow_right (by omega) h8
theorem xorl_zero (l : List B8) : num (xorl l l) = 0 := by
  rw [xorl_self]
  induction l with
  | nil => rfl
  | cons c l ih => rw [List.length_cons, List.replicate_succ, num_cons, ih]; simp
theorem num_flips (l : List B8) (at_ t : Nat) (k : Nat) (hk : at_ + k ≤ 8 * l.length) : num (xorl l (flipsTo l at_ t k)) = (t % 2 ^ k) * 2 ^ at_ := by
  induction k with
  | zero =>
    show num (xorl l l) = _
    rw [xorl_self, Nat.pow_zero, Nat.mod_one, Nat.zero_mul]
    clear hk
    induction l with
    | nil => rfl
    | cons c l ih => rw [List.length_cons, List.replicate_succ, num_cons, ih]; simp
  | succ k ih =>
    have ih' := ih (by omega)
    have hbit : (t % 2 ^ (k + 1)) * 2 ^ at_ = (t % 2 ^ k) * 2 ^ at_ ^^^ (if t.testBit k then 2 ^ (at_ + k) else 0) := by
      apply Nat.eq_of_testBit_eq
      intro j
      rw [Nat.testBit_xor, Nat.testBit_mul_two_pow, Nat.testBit_mul_two_pow, Nat.testBit_mod_two_pow, Nat.testBit_mod_two_pow]
      by_cases ht : t.testBit k
      · rw [if_pos ht, Nat.testBit_two_pow]
        by_cases hj : at_ ≤ j
        · by_cases he : j - at_ = k
          · have : at_ + k = j := by omega
            subst he
            simp [hj, ht, this]
          · have h1 : ¬ at_ + k = j := by omega
            by_cases hlt : j - at_ < k
            · simp [hj, h1, hlt, show j - at_ < k + 1 by omega]
            · simp [hj, h1, hlt, show ¬ j - at_ < k + 1 by omega]
        · simp [hj, show ¬ at_ + k = j by omega]
      · rw [if_neg ht, Nat.zero_testBit, Bool.xor_false]
        by_cases he : j - at_ = k
        · simp [he, ht]
        · by_cases hlt : j - at_ < k
          · simp [hlt, show j - at_ < k + 1 by omega]
          · simp [hlt, show ¬ j - at_ < k + 1 by omega]
    unfold flipsTo
    by_cases ht : t.testBit k
    · rw [if_pos ht, num_flipAt _ _ _ (flipsTo_length ..).symm (by rw [flipsTo_length]; omega), ih', hbit, if_pos ht]
    · rw [if_neg ht, ih', hbit, if_neg ht, Nat.xor_zero]
/-- One turned bit is seen. -/
theorem crc_flip (p s : B32) (hp : 2 ^ 31 ≤ p.toNat) (l : List B8) (pos : Nat) (h : pos < 8 * l.length) (h4 : 4 ≤ l.length) : crcOf p s l ≠ crcOf p s (flipAt l pos) := by
  have hx : num (xorl l (flipAt l pos)) = 2 ^ pos := by
    rw [num_flipAt l l pos rfl h, xorl_zero, Nat.zero_xor]
  by_cases hc : pos + 32 ≤ 8 * l.length
  · exact crc_burst p s hp l _ (flipAt_length ..).symm pos 1 (by omega) (by omega) hc (by rw [hx, Nat.one_mul])
  · refine crc_burst p s hp l _ (flipAt_length ..).symm (8 * l.length - 32) (2 ^ (pos - (8 * l.length - 32))) (Nat.pow_lt_pow_right (by omega) (by omega)) (Nat.ne_of_gt (Nat.pow_pos (by omega))) (by omega) ?_
    rw [hx, ← Nat.pow_add]; congr 1; omega
theorem flipAt_ne (l : List B8) (pos : Nat) (h : pos < 8 * l.length) : flipAt l pos ≠ l := by
  intro e
  have hx := num_flipAt l l pos rfl h
  rw [e, xorl_zero, Nat.zero_xor] at hx
  exact absurd hx.symm (Nat.ne_of_gt (Nat.pow_pos (by omega)))
end Go.Proofs.YtdkcjmpikmnedaaGreat
