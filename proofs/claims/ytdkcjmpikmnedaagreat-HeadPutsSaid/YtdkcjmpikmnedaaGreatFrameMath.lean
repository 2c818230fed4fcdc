/- Frames in plain Lean: numbers as bytes and back, a frame's bytes, the frame that bytes begin with; what is put is got, a turned bit is seen. No program in sight. -/
import Derived.Test.YtdkcjmpikmnedaaGreatCrcMath
namespace Go.Proofs.YtdkcjmpikmnedaaGreat

/-- n in so many bytes, the greatest first. -/
def be (n : Nat) : Nat → List B8
  | 0 => []
  | k + 1 => BitVec.ofNat 8 (n / 256 ^ k) :: be n k
/-- What some bytes say as a number. -/
def said (l : List B8) : Nat := l.foldl (fun n c => 256 * n + c.toNat) 0
theorem be_length (n : Nat) : ∀ k, (be n k).length = k
  | 0 => rfl
  | k + 1 => by rw [be, List.length_cons, be_length n k]
theorem said_snoc (l : List B8) (c : B8) : said (l ++ [c]) = 256 * said l + c.toNat := by unfold said; rw [List.foldl_append]; rfl
theorem said_from (l : List B8) : ∀ a, l.foldl (fun n c => 256 * n + c.toNat) a = a * 256 ^ l.length + said l := by
  induction l with
  | nil => intro a; simp [said]
  | cons c l ih =>
    intro a
    have h1 := ih (256 * a + c.toNat)
    have h2 := ih (256 * 0 + c.toNat)
    show l.foldl _ (256 * a + c.toNat) = _
    have h3 : said (c :: l) = l.foldl (fun n c => 256 * n + c.toNat) (256 * 0 + c.toNat) := rfl
    rw [h1, h3, h2, List.length_cons, Nat.pow_succ, Nat.mul_zero, Nat.zero_add, Nat.add_mul, Nat.add_assoc]
    congr 1
    rw [Nat.mul_comm 256 a, Nat.mul_assoc, Nat.mul_comm 256]
theorem said_cons (c : B8) (l : List B8) : said (c :: l) = c.toNat * 256 ^ l.length + said l := by
  show l.foldl (fun n c => 256 * n + c.toNat) (256 * 0 + c.toNat) = _
  rw [said_from, Nat.mul_zero, Nat.zero_add]
theorem said_lt (l : List B8) : said l < 256 ^ l.length := by
  induction l with
  | nil => simp [said]
  | cons c l ih =>
    rw [said_cons, List.length_cons, Nat.pow_succ]
    have hc : c.toNat < 256 := c.isLt
    have : c.toNat * 256 ^ l.length + 256 ^ l.length ≤ 256 * 256 ^ l.length := by
      rw [← Nat.succ_mul]; exact Nat.mul_le_mul_right _ hc
    rw [Nat.mul_comm (256 ^ l.length)]; omega
theorem said_be (n : Nat) : ∀ k, said (be n k) = n % 256 ^ k
  | 0 => by simp [be, said, Nat.mod_one]
  | k + 1 => by
    have hm : n % 256 ^ (k + 1) = n % 256 ^ k + 256 ^ k * (n / 256 ^ k % 256) := by rw [Nat.pow_succ, Nat.mod_mul]
    rw [be, said_cons, be_length, said_be n k, BitVec.toNat_ofNat, hm, Nat.add_comm, Nat.mul_comm]
theorem be_said : ∀ l : List B8, be (said l) l.length = l := by
  intro l
  induction l with
  | nil => rfl
  | cons c l ih =>
    rw [List.length_cons, be, said_cons]
    have hl := said_lt l
    have h1 : (c.toNat * 256 ^ l.length + said l) / 256 ^ l.length = c.toNat := by
      rw [Nat.add_comm, Nat.add_mul_div_right _ _ (Nat.pow_pos (by omega)), Nat.div_eq_of_lt hl, Nat.zero_add]
    rw [h1]
    congr 1
    · simp
    · have : ∀ (a : Nat) (k : Nat) (b : Nat), k ≤ l.length → be (a * 256 ^ l.length + b) k = be b k := by
        intro a k b
        induction k with
        | zero => intro _; rfl
        | succ k ihk =>
          intro hk
          rw [be, be, ihk (by omega)]
          congr 1
          have e : 256 ^ l.length = 256 ^ (l.length - k - 1) * 256 * 256 ^ k := by rw [← Nat.pow_succ, ← Nat.pow_add]; congr 1; omega
          rw [e, ← Nat.mul_assoc, ← Nat.mul_assoc, Nat.add_comm, Nat.add_mul_div_right _ _ (Nat.pow_pos (by omega))]
          apply BitVec.eq_of_toNat_eq
          rw [BitVec.toNat_ofNat, BitVec.toNat_ofNat]
          omega
      rw [this c.toNat l.length (said l) (Nat.le_refl _), ih]

/-- How many sectors a frame has with so many bytes of data. -/
def sectors (n : Nat) : Nat := (n + 543) / 512
def peat : List B8 := [112#8, 101#8, 97#8, 116#8]
/-- A frame's bytes ahead of its sum. -/
def body (k e s : Nat) (d : List B8) : List B8 := peat ++ [BitVec.ofNat 8 k, 0#8, 0#8, 0#8] ++ be e 8 ++ be s 8 ++ be d.length 4 ++ d
def sumOf (b : List B8) : List B8 := be (crcOf castagnoli 0#32 b).toNat 4
/-- A frame's bytes. -/
def frameBytes (k e s : Nat) (d : List B8) : List B8 := body k e s d ++ sumOf (body k e s d) ++ List.replicate (512 * sectors d.length - (32 + d.length)) 0#8
theorem body_length (k e s : Nat) (d : List B8) : (body k e s d).length = 28 + d.length := by simp [body, peat, be_length]; omega
theorem frameBytes_length (k e s : Nat) (d : List B8) : (frameBytes k e s d).length = 512 * sectors d.length := by
  unfold frameBytes sumOf sectors
  rw [List.length_append, List.length_append, body_length, be_length, List.length_replicate]
  omega

/-- What a head's fields say. -/
def hKind (b : List B8) : Nat := (b.getD 4 0#8).toNat
def hEpoch (b : List B8) : Nat := said ((b.drop 8).take 8)
def hSeq (b : List B8) : Nat := said ((b.drop 16).take 8)
def hLen (b : List B8) : Nat := said ((b.drop 24).take 4)
def hData (b : List B8) : List B8 := (b.drop 28).take (hLen b)
/-- The frame that bytes begin with: is there one? -/
def isFrame (b : List B8) : Prop :=
  512 ≤ b.length ∧ hLen b ≤ 32768 ∧ hEpoch b ≤ 1099511627776 ∧ hSeq b ≤ 1099511627776 ∧ frameBytes (hKind b) (hEpoch b) (hSeq b) (hData b) <+: b ∧ 512 * sectors (hLen b) ≤ b.length
theorem hData_length (b : List B8) (h : 512 ≤ b.length) (h2 : 512 * sectors (hLen b) ≤ b.length) : (hData b).length = hLen b := by
  unfold hData
  rw [List.length_take, List.length_drop]
  unfold sectors at h2
  omega

theorem body_parts (k e s : Nat) (d t : List B8) (hk : k ≤ 255) (he : e ≤ 1099511627776) (hs : s ≤ 1099511627776) (hd : d.length ≤ 32768) :
    hKind (body k e s d ++ t) = k ∧ hEpoch (body k e s d ++ t) = e ∧ hSeq (body k e s d ++ t) = s ∧ hLen (body k e s d ++ t) = d.length ∧ hData (body k e s d ++ t) = d := by
  have e8 := be_length e 8
  have s8 := be_length s 8
  have l4 := be_length d.length 4
  have x1 : hKind (body k e s d ++ t) = k := by
    unfold hKind body peat
    simp only [List.append_assoc, List.cons_append, List.nil_append]
    show (BitVec.ofNat 8 k).toNat = k
    rw [BitVec.toNat_ofNat]; omega
  have sp : ∀ (p q r : List B8) (a n : Nat), p.length = a → q.length = n → ((p ++ (q ++ r)).drop a).take n = q := by
    intro p q r a n ha hn
    rw [← ha, List.drop_left, ← hn, List.take_left]
  have hb : body k e s d ++ t = (peat ++ [BitVec.ofNat 8 k, 0#8, 0#8, 0#8]) ++ (be e 8 ++ (be s 8 ++ (be d.length 4 ++ (d ++ t)))) := by simp [body]
  have x2 : hEpoch (body k e s d ++ t) = e := by
    unfold hEpoch
    rw [hb, sp _ _ _ 8 8 rfl e8, said_be, Nat.mod_eq_of_lt (by omega)]
  have x3 : hSeq (body k e s d ++ t) = s := by
    unfold hSeq
    rw [hb, ← List.append_assoc (peat ++ _), sp _ _ _ 16 8 (by simp [peat, e8]) s8, said_be, Nat.mod_eq_of_lt (by omega)]
  have x4 : hLen (body k e s d ++ t) = d.length := by
    unfold hLen
    rw [hb, ← List.append_assoc (peat ++ _), ← List.append_assoc, sp _ _ _ 24 4 (by simp [peat, e8, s8]) l4, said_be, Nat.mod_eq_of_lt (by omega)]
  refine ⟨x1, x2, x3, x4, ?_⟩
  unfold hData
  rw [x4, hb, ← List.append_assoc (peat ++ _), ← List.append_assoc, ← List.append_assoc, sp _ _ _ 28 d.length (by simp [peat, e8, s8, l4]) rfl]
/-- What is put is got, whatever stands behind. -/
theorem put_get (k e s : Nat) (d t : List B8) (hk : k ≤ 255) (he : e ≤ 1099511627776) (hs : s ≤ 1099511627776) (hd : d.length ≤ 32768) :
    isFrame (frameBytes k e s d ++ t) ∧ hKind (frameBytes k e s d ++ t) = k ∧ hEpoch (frameBytes k e s d ++ t) = e ∧ hSeq (frameBytes k e s d ++ t) = s ∧ hLen (frameBytes k e s d ++ t) = d.length ∧ hData (frameBytes k e s d ++ t) = d := by
  have hb : frameBytes k e s d ++ t = body k e s d ++ (sumOf (body k e s d) ++ List.replicate (512 * sectors d.length - (32 + d.length)) 0#8 ++ t) := by simp [frameBytes]
  obtain ⟨x1, x2, x3, x4, x5⟩ := body_parts k e s d (sumOf (body k e s d) ++ List.replicate (512 * sectors d.length - (32 + d.length)) 0#8 ++ t) hk he hs hd
  rw [← hb] at x1 x2 x3 x4 x5
  refine ⟨⟨?_, by rw [x4]; exact hd, by rw [x2]; exact he, by rw [x3]; exact hs, by rw [x1, x2, x3, x5]; exact List.prefix_append _ _, ?_⟩, x1, x2, x3, x4, x5⟩
  · rw [List.length_append, frameBytes_length]; unfold sectors; omega
  · rw [x4, List.length_append, frameBytes_length]; omega
/-- The fields hang on the first 28 bytes, and the data. -/
theorem fields_prefix {b c : List B8} (h : b <+: c) (hl : 512 ≤ b.length) : hKind b = hKind c ∧ hEpoch b = hEpoch c ∧ hSeq b = hSeq c ∧ hLen b = hLen c := by
  obtain ⟨t, rfl⟩ := h
  have tk : ∀ a n : Nat, a + n ≤ b.length → ((b ++ t).drop a).take n = (b.drop a).take n := by
    intro a n ha
    rw [List.drop_append_of_le_length (by omega), List.take_append_of_le_length (by rw [List.length_drop]; omega)]
  refine ⟨?_, ?_, ?_, ?_⟩
  · unfold hKind
    rw [List.getD_eq_getElem?_getD, List.getD_eq_getElem?_getD, List.getElem?_append_left (by omega)]
  · unfold hEpoch; rw [tk 8 8 (by omega)]
  · unfold hSeq; rw [tk 16 8 (by omega)]
  · unfold hLen; rw [tk 24 4 (by omega)]
/-- A frame cut anywhere is none. -/
theorem cut_none (k e s : Nat) (d : List B8) (hk : k ≤ 255) (he : e ≤ 1099511627776) (hs : s ≤ 1099511627776) (hd : d.length ≤ 32768) (n : Nat) (hn : n < (frameBytes k e s d).length) :
    ¬ isFrame ((frameBytes k e s d).take n) := by
  intro ⟨h1, _, _, _, h5, h6⟩
  have hp : (frameBytes k e s d).take n <+: frameBytes k e s d := List.take_prefix _ _
  obtain ⟨_, _, _, f4⟩ := fields_prefix hp h1
  obtain ⟨_, _, _, _, x4, _⟩ := put_get k e s d [] hk he hs hd
  rw [List.append_nil] at x4
  rw [f4, x4, List.length_take, ← frameBytes_length k e s d] at h6
  omega

theorem set_far (b : List B8) (i a n : Nat) (x : B8) (h : i < a ∨ a + n ≤ i) : ((b.set i x).drop a).take n = (b.drop a).take n := by
  apply List.ext_getElem?
  intro j
  rw [List.getElem?_take, List.getElem?_take, List.getElem?_drop, List.getElem?_drop]
  by_cases hj : j < n
  · rw [if_pos hj, if_pos hj, List.getElem?_set_ne (by omega)]
  · rw [if_neg hj, if_neg hj]
theorem sum_inj {a b : List B8} (h : sumOf a = sumOf b) : crcOf castagnoli 0#32 a = crcOf castagnoli 0#32 b := by
  unfold sumOf at h
  have h1 := congrArg said h
  rw [said_be, said_be] at h1
  apply BitVec.eq_of_toNat_eq
  have x := (crcOf castagnoli 0#32 a).isLt
  have y := (crcOf castagnoli 0#32 b).isLt
  omega
/-- A turned bit makes a frame none, but in the length. -/
theorem flip_none (k e s : Nat) (d : List B8) (hk : k ≤ 255) (he : e ≤ 1099511627776) (hs : s ≤ 1099511627776) (hd : d.length ≤ 32768) (pos : Nat) (hp : pos < 8 * (frameBytes k e s d).length)
    (hl : ¬ (24 ≤ pos / 8 ∧ pos / 8 < 28)) : ¬ isFrame (flipAt (frameBytes k e s d) pos) := by
  intro ⟨h1, h2, h3, h4, h5, h6⟩
  obtain ⟨_, _, _, _, x4, _⟩ := put_get k e s d [] hk he hs hd
  rw [List.append_nil] at x4
  have hlen : hLen (flipAt (frameBytes k e s d) pos) = d.length := by
    rw [← x4]
    unfold hLen flipAt
    rw [set_far _ _ _ _ _ (by omega)]
  have hdl := hData_length _ h1 h6
  have hN := frameBytes_length k e s d
  have hcl : (flipAt (frameBytes k e s d) pos).length = 512 * sectors d.length := by rw [flipAt_length, hN]
  have heq := h5.eq_of_length (by rw [frameBytes_length, hdl, hlen, hcl])
  generalize hc : flipAt (frameBytes k e s d) pos = c at *
  generalize hKind c = k' at *
  generalize hEpoch c = e' at *
  generalize hSeq c = s' at *
  generalize hData c = d' at *
  have hd' : d'.length = d.length := by rw [hdl, hlen]
  have bl := body_length k e s d
  have bl' := body_length k' e' s' d'
  have t1 : c.take (28 + d.length) = body k' e' s' d' := by rw [← heq]; unfold frameBytes; rw [List.append_assoc, List.take_append_of_le_length (by omega), List.take_of_length_le (by omega)]
  have t2 : c.drop (28 + d.length) = sumOf (body k' e' s' d') ++ List.replicate (512 * sectors d.length - (32 + d.length)) 0#8 := by
    rw [← heq]; unfold frameBytes; rw [List.append_assoc, ← hd', ← bl', List.drop_left]
  have u1 : (frameBytes k e s d).take (28 + d.length) = body k e s d := by unfold frameBytes; rw [List.append_assoc, List.take_append_of_le_length (by omega), List.take_of_length_le (by omega)]
  have u2 : (frameBytes k e s d).drop (28 + d.length) = sumOf (body k e s d) ++ List.replicate (512 * sectors d.length - (32 + d.length)) 0#8 := by
    unfold frameBytes; rw [List.append_assoc, ← bl, List.drop_left]
  by_cases hi : pos / 8 < 28 + d.length
  · have v1 : c.take (28 + d.length) = flipAt (body k e s d) pos := by
      rw [← hc]
      unfold flipAt
      rw [List.take_set, u1]
      congr 2
      rw [List.getD_eq_getElem?_getD, List.getD_eq_getElem?_getD, ← u1, List.getElem?_take, if_pos hi]
    have v2 : c.drop (28 + d.length) = (frameBytes k e s d).drop (28 + d.length) := by
      rw [← hc]
      unfold flipAt
      rw [List.drop_set, if_pos hi]
    rw [t2, u2] at v2
    have hs' := List.append_inj_left v2 (by simp [sumOf, be_length])
    have hcrc := sum_inj hs'
    rw [← t1, v1] at hcrc
    exact crc_flip castagnoli 0#32 (by decide) (body k e s d) pos (by omega) (by omega) hcrc.symm
  · have v1 : c.take (28 + d.length) = body k e s d := by
      rw [← hc]
      unfold flipAt
      rw [List.take_set, u1, List.set_eq_of_length_le (by omega)]
    rw [t1] at v1
    have : c = frameBytes k e s d := by
      rw [← heq]; unfold frameBytes; rw [v1, hd']
    rw [← hc] at this
    exact flipAt_ne _ pos hp this
end Go.Proofs.YtdkcjmpikmnedaaGreat
