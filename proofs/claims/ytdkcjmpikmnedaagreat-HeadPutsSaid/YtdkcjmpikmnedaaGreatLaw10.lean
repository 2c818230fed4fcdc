/- The statements of layer 10, walked. -/
import Derived.Test.YtdkcjmpikmnedaaGreatFrameGet
import Derived.Test.YtdkcjmpikmnedaaGreatFrameRef
namespace Go.Proofs.YtdkcjmpikmnedaaGreat
open Go.RowKit

theorem get_any (A : Option Addr) (c n : Nat) (l : List B8) (P : Nat → Prop) (w : World) (hr : Rd w P A (bs l)) (hn : l.length = n) (hl : l.length ≤ 1000000) (hc : l.length ≤ c) :
    Calls Tryz.prog 77 #[.slice A n c] w (GetPost w l) := by
  subst hn
  rcases Nat.lt_or_ge l.length 512 with h | h
  · exact get_short A c l w h
  · exact get_long A c l P w hr h hl hc
/-- What is put is got. -/
theorem get_put (k e s m n : Nat) (A : Option Addr) (c : Nat) (d t : List B8) (P : Nat → Prop) (w : World) (hk : k ≤ 255) (he : e ≤ 1099511627776) (hs : s ≤ 1099511627776) (hd : d.length = m) (hm : m ≤ 32768)
    (hn : (frameBytes k e s d ++ t).length = n) (hr : Rd w P A (bs (frameBytes k e s d ++ t))) (hl : n ≤ 1000000) (hc : n ≤ c) :
    Calls Tryz.prog 77 #[.slice A n c] w fun r w' => ∃ A' c', r = .returned (.tuple #[.agg #[.int .i64 k, .int .i64 e, .int .i64 s, .slice A' m c'], .int .i64 (sectors m : Nat), .int .i64 0]) ∧
      Rd w' (fun _ => True) A' (bs d) ∧ OwnB w' w.heap.size (.slice A' m c') d ∧ Below w.heap.size w w' := by
  subst hd
  obtain ⟨f1, f2, f3, f4, f5, f6⟩ := put_get k e s d t hk he hs hm
  refine (get_any A c n _ P w hr hn (by omega) (by omega)).mono ?_
  rintro r w' ⟨⟨_, v, rfl, own⟩ | ⟨hno, _⟩, hb⟩
  · rw [f6] at own
    obtain ⟨A', c', rfl, _⟩ := own.form
    exact ⟨A', c', by rw [f2, f3, f4, f5], own.rd fun _ _ _ _ => trivial, own, hb⟩
  · exact absurd f1 hno
/-- What is none. -/
theorem get_none (A : Option Addr) (c n : Nat) (l : List B8) (P : Nat → Prop) (w : World) (hr : Rd w P A (bs l)) (hn : l.length = n) (hl : l.length ≤ 1000000) (hc : l.length ≤ c) (h : ¬ isFrame l) :
    Calls Tryz.prog 77 #[.slice A n c] w fun r w' => r = .returned (.tuple #[.agg #[.int .i64 0, .int .i64 0, .int .i64 0, .slice none 0 0], .int .i64 0, .int .i64 4]) ∧ Below w.heap.size w w' := by
  refine (get_any A c n l P w hr hn hl hc).mono ?_
  rintro r w' ⟨⟨hy, _⟩ | ⟨_, rfl⟩, hb⟩
  · exact absurd hy h
  · exact ⟨rfl, hb⟩

/-- The first example's bytes. -/
def small : List B8 := frameBytes 1 2 3 [4#8]
theorem small_length : small.length = 512 := by rw [small, frameBytes_length]; rfl
theorem small_0 : small[0]? = some 112#8 := by decide +kernel
theorem small_15 : small[15]? = some 2#8 := by decide +kernel
theorem small_27 : small[27]? = some 1#8 := by decide +kernel
theorem small_28 : small[28]? = some 4#8 := by decide +kernel
theorem RowB.cell' {w : World} {g cap : Nat} {l : List B8} (h : RowB w g cap l) (j : Nat) (x : B8) (hx : l[j]? = some x) : w.cell? ⟨g, j, none⟩ = some (.int .u8 (x.toNat : Int)) := by
  obtain ⟨hj, rfl⟩ := List.getElem?_eq_some_iff.1 hx
  exact h.cell j hj

/-- What is put of a frame: its bytes, or none and why. -/
def putRes (k e s : Int) (d : List B8) : List B8 × Int := if okNums k e s then (if d.length ≤ 32768 then (frameBytes k.toNat e.toNat s.toNat d, 0) else ([], 3)) else ([], 2)
theorem putRes_len (k e s : Int) (d : List B8) : (putRes k e s d).1.length ≤ 40000 := by
  unfold putRes
  split
  · split
    · rw [frameBytes_length]; unfold sectors; omega
    · simp
  · simp
theorem put_all (k e s : Int) (A : Option Addr) (c n : Nat) (d : List B8) (P : Nat → Prop) (w : World) (hn : d.length = n) (hr : Rd w P A (bs d)) (hd : n ≤ 140737488351232) :
    Calls Tryz.prog 71 #[.agg #[.int .i64 k, .int .i64 e, .int .i64 s, .slice A n c]] w fun r w' =>
      ∃ A' c', r = .returned (.tuple #[.slice A' (putRes k e s d).1.length c', .int .i64 (putRes k e s d).2]) ∧ Rd w' (fun b => w.heap.size ≤ b) A' (bs (putRes k e s d).1) ∧ (putRes k e s d).1.length ≤ c' ∧ Below w.heap.size w w' := by
  subst hn
  unfold putRes
  by_cases h : okNums k e s
  · rw [if_pos h]
    obtain ⟨h1, h2, h3, h4, h5, h6⟩ := id h
    by_cases hl : d.length ≤ 32768
    · rw [if_pos hl]
      have := put_good k.toNat e.toNat s.toNat A c d P w (by omega) (by omega) (by omega) hl hr
      rw [Int.toNat_of_nonneg h1, Int.toNat_of_nonneg h3, Int.toNat_of_nonneg h5] at this
      refine this.mono ?_
      rintro r w' ⟨⟨g, hg, rfl, hrow⟩, hb⟩
      refine ⟨_, _, by rw [frameBytes_length], hrow.rd hg, by rw [frameBytes_length]; exact Nat.le_refl _, hb⟩
    · rw [if_neg hl]
      refine (put_long k e s A d.length c w h (by omega) hd).mono ?_
      rintro r w' ⟨rfl, hb⟩
      exact ⟨none, 0, rfl, Rd.nil, Nat.le_refl _, hb⟩
  · rw [if_neg h]
    refine (put_bad k e s (.slice A d.length c) w h).mono ?_
    rintro r w' ⟨rfl, hb⟩
    exact ⟨none, 0, rfl, Rd.nil, Nat.le_refl _, hb⟩
theorem rput_all (k e s : Int) (A : Option Addr) (c n : Nat) (d : List B8) (P : Nat → Prop) (w : World) (hn : d.length = n) (hr : Rd w P A (bs d)) (hd : n ≤ 140737488351232) :
    Calls Tryz.prog 73 #[.agg #[.int .i64 k, .int .i64 e, .int .i64 s, .slice A n c]] w fun r w' =>
      ∃ A' c', r = .returned (.tuple #[.slice A' (putRes k e s d).1.length c', .int .i64 (putRes k e s d).2]) ∧ OwnB w' (w.heap.size + 1) (.slice A' (putRes k e s d).1.length c') (putRes k e s d).1 ∧ Below w.heap.size w w' := by
  subst hn
  unfold putRes
  by_cases h : okNums k e s
  · rw [if_pos h]
    obtain ⟨h1, h2, h3, h4, h5, h6⟩ := id h
    by_cases hl : d.length ≤ 32768
    · rw [if_pos hl]
      have := rput_good k.toNat e.toNat s.toNat A c d P w (by omega) (by omega) (by omega) hl hr
      rw [Int.toNat_of_nonneg h1, Int.toNat_of_nonneg h3, Int.toNat_of_nonneg h5] at this
      refine this.mono ?_
      rintro r w' ⟨⟨v, rfl, hown⟩, hb⟩
      obtain ⟨A', c', rfl, _⟩ := hown.form
      exact ⟨A', c', rfl, hown, hb⟩
    · rw [if_neg hl]
      refine (rput_long k e s A d.length c w h (by omega) hd).mono ?_
      rintro r w' ⟨rfl, hb⟩
      exact ⟨none, 0, rfl, OwnB.nil _ _, hb⟩
  · rw [if_neg h]
    refine (rput_bad k e s (.slice A d.length c) w h).mono ?_
    rintro r w' ⟨rfl, hb⟩
    exact ⟨none, 0, rfl, OwnB.nil _ _, hb⟩

/-! ### FramePuts -/
end Go.Proofs.YtdkcjmpikmnedaaGreat
