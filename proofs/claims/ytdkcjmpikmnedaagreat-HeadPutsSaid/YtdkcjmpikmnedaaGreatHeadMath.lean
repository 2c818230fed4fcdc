/- Heads in plain words: what is put is got, a turned bit makes none. -/
import Derived.Test.YtdkcjmpikmnedaaGreatHeadPick
namespace Go.Proofs.YtdkcjmpikmnedaaGreat

/-- May a head be? -/
def headOk (h : Hd) : Prop := headRight h.v h.s h.g h.u h.j h.pg h.rt h.sn ∧ 0 ≤ h.nu ∧ h.nu ≤ 1099511627776
instance (h : Hd) : Decidable (headOk h) := by unfold headOk; infer_instance
abbrev Hd.data (h : Hd) : List B8 := headData h.v h.s h.g h.u h.j h.pg h.rt h.sn
abbrev Hd.put (h : Hd) : List B8 × Int := hputRes h.v h.s h.g h.u h.j h.nu h.pg h.rt h.sn
abbrev Hd.bytes (h : Hd) : List B8 := frameBytes 1 h.nu.toNat 0 h.data
theorem hd_put_ok {h : Hd} (ok : headOk h) : h.put = (h.bytes, 0) := by
  obtain ⟨hr, h1, h2⟩ := ok
  show hputRes _ _ _ _ _ _ _ _ _ = _
  unfold hputRes
  rw [if_pos hr]
  unfold putRes
  rw [if_pos (show okNums 1 h.nu 0 from ⟨by omega, by omega, h1, h2, by omega, by omega⟩), if_pos (by rw [headData_length]; omega)]
  rfl
theorem hd_put_bad {h : Hd} (bad : ¬ headOk h) : h.put = ([], 2) := by
  show hputRes _ _ _ _ _ _ _ _ _ = _
  unfold hputRes
  by_cases hr : headRight h.v h.s h.g h.u h.j h.pg h.rt h.sn
  · rw [if_pos hr]
    unfold putRes
    rw [if_neg (fun k : okNums 1 h.nu 0 => bad ⟨hr, k.2.2.1, k.2.2.2.1⟩)]
  · rw [if_neg hr]
theorem hd_bytes_length (h : Hd) : h.bytes.length = 512 := by
  show (frameBytes _ _ _ _).length = 512
  rw [frameBytes_length, headData_length]
  rfl
theorem numAt_be (v s g u j pg rt sn : Int) (k : Nat) (hk : k < 8) : ((headData v s g u j pg rt sn).drop (4 * k)).take 4 = be (numAt v s g u j pg rt sn k).toNat 4 :=
  match k, hk with
  | 0, _ => rfl
  | 1, _ => rfl
  | 2, _ => rfl
  | 3, _ => rfl
  | 4, _ => rfl
  | 5, _ => rfl
  | 6, _ => rfl
  | 7, _ => rfl
theorem hNum_data {v s g u j pg rt sn : Int} (h : headRight v s g u j pg rt sn) (k : Nat) (hk : k < 8) : (hNum (headData v s g u j pg rt sn) k : Int) = numAt v s g u j pg rt sn k := by
  obtain ⟨h0, h1⟩ := headRight_bounds h k hk
  unfold hNum
  rw [numAt_be v s g u j pg rt sn k hk, said_be]
  omega
/-- What is put is a head's bytes, and got as it. -/
theorem hd_got {h : Hd} (ok : headOk h) : isHead h.bytes ∧ hd h.bytes = h := by
  obtain ⟨hr, h1, h2⟩ := id ok
  obtain ⟨f1, f2, f3, f4, f5, f6⟩ := put_get 1 h.nu.toNat 0 h.data [] (by omega) (by omega) (by omega) (by rw [headData_length]; omega)
  rw [List.append_nil] at f1 f2 f3 f4 f5 f6
  have n := fun k hk => hNum_data hr k hk
  have e : (h.nu.toNat : Int) = h.nu := Int.toNat_of_nonneg h1
  have hb : isHead h.bytes := by
    refine ⟨f1, ?_, ?_, ?_⟩
    · rw [f5, frameBytes_length]
    · rw [f5, headData_length]
    · rw [f6, f3, n 0 (by omega), n 1 (by omega), n 2 (by omega), n 3 (by omega), n 4 (by omega), n 5 (by omega), n 6 (by omega), n 7 (by omega), e]
      exact hd_put_ok ok
  refine ⟨hb, ?_⟩
  rw [hd_yes hb, f6, f3, n 0 (by omega), n 1 (by omega), n 2 (by omega), n 3 (by omega), n 4 (by omega), n 5 (by omega), n 6 (by omega), n 7 (by omega), e]
  rfl
/-- What is got is put as just these bytes. -/
theorem hd_back {l : List B8} (h : isHead l) : (hd l).put = (l, 0) := by
  show hputRes _ _ _ _ _ _ _ _ _ = _
  rw [hd_yes h]
  exact h.2.2.2
theorem isHead_length {l : List B8} (h : isHead l) : l.length = 512 := by
  rw [h.2.1, h.2.2.1]
  rfl
theorem said_inj {a b : List B8} (hl : a.length = b.length) (h : said a = said b) : a = b := by rw [← be_said a, ← be_said b, h, hl]
/-- A turned bit makes none. -/
theorem hd_flip {h : Hd} (ok : headOk h) (pos : Nat) (hp : pos < 4096) : ¬ isHead (flipAt h.bytes pos) := by
  intro hh
  have hlen := hd_bytes_length h
  by_cases hz : 24 ≤ pos / 8 ∧ pos / 8 < 28
  · have h1 : hLen (flipAt h.bytes pos) = hLen h.bytes := by rw [hh.2.2.1, (hd_got ok).1.2.2.1]
    unfold hLen at h1
    have h2 := said_inj (by rw [List.length_take, List.length_take, List.length_drop, List.length_drop, flipAt_length]) h1
    refine flipAt_ne h.bytes pos (by rw [hlen]; omega) ?_
    apply List.ext_getElem?
    intro i
    by_cases hi : 24 ≤ i ∧ i < 28
    · have h3 := congrArg (fun l => l[i - 24]?) h2
      rw [List.getElem?_take, List.getElem?_take, if_pos (by omega), if_pos (by omega), List.getElem?_drop, List.getElem?_drop, show 24 + (i - 24) = i by omega] at h3
      exact h3
    · unfold flipAt
      rw [List.getElem?_set_ne (by omega)]
  · exact flip_none 1 h.nu.toNat 0 h.data (by omega) (by have := ok.2.2; omega) (by omega) (by rw [headData_length]; omega) pos (by rw [show (frameBytes 1 h.nu.toNat 0 h.data).length = 512 from hlen]; omega) hz hh.1
/-- What counts, of two heads' bytes. -/
theorem pk_heads {a b : Hd} (ha : headOk a) (hb : headOk b) : pk a.bytes b.bytes = if a.nu < b.nu then (b, 1) else (a, 0) := by
  obtain ⟨a1, a2⟩ := hd_got ha
  obtain ⟨b1, b2⟩ := hd_got hb
  unfold pk
  rw [a2, b2]
  by_cases h : a.nu < b.nu
  · rw [if_pos ⟨b1, .inr h⟩, if_pos h]
  · rw [if_neg (fun k => k.2.elim (fun n => n a1) h), if_pos a1, if_neg h]
theorem pk_left {a : Hd} (ha : headOk a) {m : List B8} (hm : ¬ isHead m) : pk a.bytes m = (a, 0) := by
  obtain ⟨a1, a2⟩ := hd_got ha
  unfold pk
  rw [if_neg (fun k => hm k.1), if_pos a1, a2]
theorem pk_right {b : Hd} (hb : headOk b) {l : List B8} (hl : ¬ isHead l) : pk l b.bytes = (b, 1) := by
  obtain ⟨b1, b2⟩ := hd_got hb
  unfold pk
  rw [if_pos ⟨b1, .inl hl⟩, b2]
theorem pk_none {l m : List B8} (hl : ¬ isHead l) (hm : ¬ isHead m) : pk l m = (hd0, -1) := by
  unfold pk
  rw [if_neg (fun k => hm k.1), if_neg hl]
theorem not_head {l : List B8} (h : l.length ≠ 512) : ¬ isHead l := fun k => h (isHead_length k)
/-- Noughts are none. -/
theorem zeros_none : ¬ isHead (List.replicate 512 0#8) := by
  intro h
  have := h.2.2.1
  revert this
  decide +kernel
/-- The chapter's head. -/
def hdSmall : Hd := ⟨64, 4, 32, 1, 8, 7, 1, 0, 1⟩
theorem small_ok : headOk hdSmall := by decide +kernel
theorem hdSmall_0 : hdSmall.bytes.take 5 = [112#8, 101#8, 97#8, 116#8, 1#8] := by decide +kernel
theorem hdSmall_15 : hdSmall.bytes[15]? = some 7#8 := by decide +kernel
theorem hd0_bad : ¬ headOk hd0 := by decide +kernel
end Go.Proofs.YtdkcjmpikmnedaaGreat
