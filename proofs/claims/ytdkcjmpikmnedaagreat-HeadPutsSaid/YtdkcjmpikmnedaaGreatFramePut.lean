/- The walks through frame.Put. -/
import Derived.Test.YtdkcjmpikmnedaaGreatFrame
import Derived.Test.YtdkcjmpikmnedaaGreatBytes
namespace Go.Proofs.YtdkcjmpikmnedaaGreat
open Go.RowKit

/-- A frame's cells. -/
def frC (k e s : Int) (v : Value) : Array Value := #[.int .i64 k, .int .i64 e, .int .i64 s, v]
theorem frC_0 (k e s : Int) (v : Value) : (frC k e s v)[0]? = some (.int .i64 k) := rfl
theorem frC_1 (k e s : Int) (v : Value) : (frC k e s v)[1]? = some (.int .i64 e) := rfl
theorem frC_2 (k e s : Int) (v : Value) : (frC k e s v)[2]? = some (.int .i64 s) := rfl
theorem frC_3 (k e s : Int) (v : Value) : (frC k e s v)[3]? = some v := rfl
/-- A frame's numbers are as they may be. -/
def okNums (k e s : Int) : Prop := 0 ≤ k ∧ k ≤ 255 ∧ 0 ≤ e ∧ e ≤ 1099511627776 ∧ 0 ≤ s ∧ s ≤ 1099511627776
instance (k e s : Int) : Decidable (okNums k e s) := by unfold okNums; infer_instance

set_option maxHeartbeats 400000 in
theorem put_bad (k e s : Int) (v : Value) (w : World) (h : ¬ okNums k e s) :
    Calls Tryz.prog 71 #[.agg #[.int .i64 k, .int .i64 e, .int .i64 s, v]] w fun r w' => r = .returned (.tuple #[.slice none 0 0, .int .i64 2]) ∧ Below w.heap.size w w' := by
  have hb : Below w.heap.size w (w.alloc (.cells #[.int .i64 k, .int .i64 e, .int .i64 s, v] 111)) := (Below.refl _ _).alloc (Nat.le_refl _) _
  have H := hide h
  by_cases h1 : k < 0
  · clear h
    go_enter Tryz.func71, Tryz.ntmps71
    go_wp2
    go_ret2
    exact ⟨rfl, hb⟩
  · by_cases h2 : 255 < k
    · clear h
      go_enter Tryz.func71, Tryz.ntmps71
      go_wp2
      go_ret2
      exact ⟨rfl, hb⟩
    · by_cases h3 : 0 ≤ e ∧ e ≤ 1099511627776
      · have h4 : ¬ (0 ≤ s ∧ s ≤ 1099511627776) := fun h' => h ⟨by omega, by omega, h3.1, h3.2, h'.1, h'.2⟩
        have M1 := decide_eq_true h3
        have M2 := decide_eq_false h4
        clear h h3 h4
        go_enter Tryz.func71, Tryz.ntmps71
        go_wp2_with (go_at_call 108; refine (may_any _ _).mono ?_; rintro r w' ⟨rfl, rfl⟩)
        go_ret2
        exact ⟨rfl, hb⟩
      · have M1 := decide_eq_false h3
        clear h h3
        go_enter Tryz.func71, Tryz.ntmps71
        go_wp2_with (go_at_call 108; refine (may_any _ _).mono ?_; rintro r w' ⟨rfl, rfl⟩)
        go_ret2
        exact ⟨rfl, hb⟩

theorem put_long (k e s : Int) (A : Option Addr) (n c : Nat) (w : World) (h : okNums k e s) (hn : 32768 < n) (hm : n ≤ 140737488351232) :
    Calls Tryz.prog 71 #[.agg #[.int .i64 k, .int .i64 e, .int .i64 s, .slice A n c]] w fun r w' => r = .returned (.tuple #[.slice none 0 0, .int .i64 3]) ∧ Below w.heap.size w w' := by
  have hb : Below w.heap.size w (w.alloc (.cells #[.int .i64 k, .int .i64 e, .int .i64 s, .slice A n c] 111)) := (Below.refl _ _).alloc (Nat.le_refl _) _
  obtain ⟨h1, h2, h3, h4, h5, h6⟩ := h
  have M1 : decide (0 ≤ e ∧ e ≤ 1099511627776) = true := decide_eq_true ⟨h3, h4⟩
  have M2 : decide (0 ≤ s ∧ s ≤ 1099511627776) = true := decide_eq_true ⟨h5, h6⟩
  clear h3 h4 h5 h6
  go_enter Tryz.func71, Tryz.ntmps71
  go_wp2_with (go_at_call 108; refine (may_any _ _).mono ?_; rintro r w' ⟨rfl, rfl⟩)
  go_ret2
  exact ⟨rfl, hb⟩

/-- Where Put stands: the frame's cells, the row that fills, all old as it was. -/
structure PutSt (w wi : World) (g N : Nat) (l : List B8) (cs : Array Value) : Prop where
  fill : Fill wi g N l
  blk : Blk wi w.heap.size 111 cs
  below : Below w.heap.size w wi
  lt : w.heap.size < g
section
variable {w wi wj : World} {g N : Nat} {l l' : List B8} {cs : Array Value}
theorem PutSt.next (h : PutSt w wi g N l cs) (hf : Fill wj g N l') (hg : wi.grownBy wj (some g)) : PutSt w wj g N l' cs :=
  ⟨hf, h.blk.grown hg (by have := h.lt; simp; omega), h.below.trans (below_of_only hg (Nat.le_of_lt h.lt) h.below.size), h.lt⟩
theorem PutSt.alloc (h : PutSt w wi g N l cs) (o : Obj) : PutSt w (wi.alloc o) g N l cs := ⟨h.fill.alloc o, h.blk.alloc o, h.below.alloc h.below.size o, h.lt⟩
theorem PutSt.after (h : PutSt w wi g N l cs) (hb : Below wi.heap.size wi wj) : PutSt w wj g N l cs :=
  ⟨h.fill.below hb h.fill.lt, h.blk.below hb h.blk.lt, h.below.trans (hb.mono h.below.size), h.lt⟩
theorem PutSt.rd (h : PutSt w wi g N l cs) {A : Option Addr} {xs : List Value} (hr : Rd w (· < w.heap.size) A xs) : Rd wi (· < w.heap.size) A xs := hr.below h.below fun _ _ hb => hb
theorem PutSt.cell (h : PutSt w wi g N l cs) (i : Nat) : wi.cell? ⟨w.heap.size, i, none⟩ = cs[i]? := h.blk.cell i
end
theorem be_fits (e : Nat) (h : e ≤ 1099511627776) : e < 18446744073709551616 := by omega

theorem number_at {w wi : World} {g N : Nat} {l : List B8} {cs : Array Value} (h : PutSt w wi g N l cs) (n0 n z : Nat) (v : Int) (hv : v = (z : Int)) (hl : l.length = n0) (hz : z ≤ 8) (hc : n0 + z ≤ N) :
    Calls Tryz.prog 110 #[.slice (some ⟨g, 0, none⟩) n0 N, .int .u64 (n : Int), .int .i64 v] wi
      fun e w' => e = .returned (.slice (some ⟨g, 0, none⟩) (n0 + z) N) ∧ PutSt w w' g N (l ++ be n z) cs ∧ (l ++ be n z).length = n0 + z := by
  subst hl hv
  exact (number_any g N z n l wi h.fill hz hc).mono fun e w' ⟨he, hf, hg⟩ => ⟨he, h.next hf hg, by rw [List.length_append, be_length]⟩

theorem peat_str (st : ByteArray) (h : st = ⟨#[112, 101, 97, 116]⟩) : Lib.strCells st = bs peat := by subst h; rfl
set_option maxRecDepth 100000 in
set_option maxHeartbeats 1000000 in
theorem put_good (k e s : Nat) (A : Option Addr) (c : Nat) (d : List B8) (P : Nat → Prop) (w : World) (hk : k ≤ 255) (he : e ≤ 1099511627776) (hs : s ≤ 1099511627776) (hd : d.length ≤ 32768) (hr : Rd w P A (bs d)) :
    Calls Tryz.prog 71 #[.agg #[.int .i64 k, .int .i64 e, .int .i64 s, .slice A d.length c]] w fun r w' =>
      (∃ g, w.heap.size ≤ g ∧ r = .returned (.tuple #[.slice (some ⟨g, 0, none⟩) (512 * sectors d.length) (512 * sectors d.length), .int .i64 0]) ∧ RowB w' g (512 * sectors d.length) (frameBytes k e s d)) ∧ Below w.heap.size w w' := by
  have M1 : decide ((e : Int) ≤ 1099511627776) = true := decide_eq_true (by omega)
  have M2 : decide ((s : Int) ≤ 1099511627776) = true := decide_eq_true (by omega)
  have D1 : decide ((k : Int) < 0) = false := decide_eq_false (by omega)
  have D2 : decide (255 < (k : Int)) = false := decide_eq_false (by omega)
  have D3 : decide (32768 < (d.length : Int)) = false := decide_eq_false (by omega)
  have hN : 512 * sectors d.length ≤ 34000 := by unfold sectors; omega
  have hN2 : 32 + d.length ≤ 512 * sectors d.length := by unfold sectors; omega
  have hbe : ∀ n z, (be n z).length = z := be_length
  have hr0 : Rd w (· < w.heap.size) A (bs d) := hr.imp fun b hb _ => hb
  have i0 : ∀ w, (Instr.index 150 (.agg #[.int .i64 (e : Int), .int .i64 (s : Int)]) (.int .i64 0)).run Tryz.prog w = .ok (.int .i64 (e : Int)) w := fun _ => by kernel_rfl
  have i1 : ∀ w, (Instr.index 150 (.agg #[.int .i64 (e : Int), .int .i64 (s : Int)]) (.int .i64 1)).run Tryz.prog w = .ok (.int .i64 (s : Int)) w := fun _ => by kernel_rfl
  go_enter Tryz.func71, Tryz.ntmps71
  go_wp2_with (first
    | (go_at_call 108; refine (may_any _ _).mono ?_; rintro r w' ⟨rfl, rfl⟩)
    | (go_at_call 109; refine (sectors_any _ _ (by omega)).mono ?_; rintro r w' ⟨rfl, rfl⟩)
    | (with_reducible refine stop_make ?_))
  unfold Stopped
  have B0 : Blk (w.alloc (.cells #[.int .i64 k, .int .i64 e, .int .i64 s, .slice A d.length c] 111)) w.heap.size 111 #[.int .i64 k, .int .i64 e, .int .i64 s, .slice A d.length c] := Blk.new _ _ _
  have b0 : Below w.heap.size w (w.alloc (.cells #[.int .i64 k, .int .i64 e, .int .i64 s, .slice A d.length c] 111)) := (Below.refl _ _).alloc (Nat.le_refl _) _
  generalize w.alloc (.cells #[.int .i64 k, .int .i64 e, .int .i64 s, .slice A d.length c] 111) = w1 at *
  have hw1 := B0.lt
  generalize hNN : 512 * sectors d.length = N at *
  refine wpList_make_u8_full rfl _ _ rfl _ _ N rfl rfl (by omega) (by omega) (by omega) ?_
  intro w2 hrow hg
  have hgw : w.heap.size < w1.heap.size := hw1
  have S2 : PutSt w w2 w1.heap.size N [] #[.int .i64 k, .int .i64 e, .int .i64 s, .slice A d.length c] := ⟨Fill.of_made hrow, B0.grown hg (by simp), b0.trans ((below_of_none hg).mono (Nat.le_of_lt hw1)), hgw⟩
  generalize w1.heap.size = g at *
  clear hrow hg B0 b0 hw1 hr
  have c0 : w2.cell? ⟨w.heap.size, 0, none⟩ = some (.int .i64 k) := S2.cell 0
  have c1 : w2.cell? ⟨w.heap.size, 1, none⟩ = some (.int .i64 e) := S2.cell 1
  go_wp2_with (with_reducible refine stop_append ?_)
  unfold Stopped
  refine wpList_append_fill_str rfl _ _ rfl g 0 N [] rfl rfl S2.fill _ peat rfl rfl 4 rfl (by omega) ?_
  intro w3 F3 hg3
  have S3 := S2.next F3 hg3
  rw [List.nil_append, Nat.zero_add] at *
  clear F3 hg3 c0 c1 S2
  have c0 : w3.cell? ⟨w.heap.size, 0, none⟩ = some (.int .i64 k) := S3.cell 0
  go_wp2_with (with_reducible refine stop_append ?_)
  unfold Stopped
  have hl4 : peat.length = 4 := rfl
  refine wpList_append_fill rfl _ _ rfl g 4 N peat rfl rfl (S3.alloc _).fill (fun _ => True) (some ⟨w3.heap.size, 0, none⟩) 4 4 [BitVec.ofNat 8 k, 0#8, 0#8, 0#8] rfl rfl
    (rd_alloc _ _ _ (0, 0) _ (by simp [bs, Nat.mod_eq_of_lt (show k < 256 by omega)]) _ trivial) (by omega) ?_
  intro w4 F4 hg4
  have S4 := (S3.alloc _).next F4 hg4
  clear F4 hg4 c0 S3
  have hlp : (peat ++ [BitVec.ofNat 8 k, 0#8, 0#8, 0#8]).length = 8 := rfl
  generalize hP1 : peat ++ [BitVec.ofNat 8 k, 0#8, 0#8, 0#8] = p1 at *
  have c1 : w4.cell? ⟨w.heap.size, 1, none⟩ = some (.int .i64 e) := S4.cell 1
  have c2 : w4.cell? ⟨w.heap.size, 2, none⟩ = some (.int .i64 s) := S4.cell 2
  go_wp2
  go_loopw [5, 54] (fun v i wr => (i = .int .i64 0 ∧ v = .slice (some ⟨g, 0, none⟩) 8 N ∧ PutSt w wr g N p1 #[.int .i64 k, .int .i64 e, .int .i64 s, .slice A d.length c]) ∨
      (i = .int .i64 1 ∧ v = .slice (some ⟨g, 0, none⟩) 16 N ∧ PutSt w wr g N (p1 ++ be e 8) #[.int .i64 k, .int .i64 e, .int .i64 s, .slice A d.length c]) ∨
      (i = .int .i64 2 ∧ v = .slice (some ⟨g, 0, none⟩) 24 N ∧ PutSt w wr g N (p1 ++ be e 8 ++ be s 8) #[.int .i64 k, .int .i64 e, .int .i64 s, .slice A d.length c])) (fun _ i _ => 2 - (intOf i).toNat)
  case atStart => exact .inl ⟨rfl, rfl, S4⟩
  case round =>
    clear c1 c2 S4
    rcases hrel with ⟨rfl, rfl, S⟩ | ⟨rfl, rfl, S⟩ | ⟨rfl, rfl, S⟩
    · go_wp2_with (go_at_call 110; refine (number_at S 8 e 8 8 rfl hlp (by omega) (by omega)).mono ?_; rintro r w5 ⟨rfl, S5, hl5⟩)
      go_roundw
      case rel => exact .inr (.inl ⟨by go_num, rfl, S5⟩)
      case measure => simp [intOf]
    · go_wp2_with (go_at_call 110; refine (number_at S 16 s 8 8 rfl (by rw [List.length_append, be_length, hlp]) (by omega) (by omega)).mono ?_; rintro r w5 ⟨rfl, S5, hl5⟩)
      go_roundw
      case rel => exact .inr (.inr ⟨by go_num, rfl, S5⟩)
      case measure => simp [intOf]
    · have hl6 : (p1 ++ be e 8 ++ be s 8).length = 24 := by rw [List.length_append, List.length_append, be_length, be_length, hlp]
      generalize hP2 : p1 ++ be e 8 ++ be s 8 = p2 at *
      have c3 : wr.cell? ⟨w.heap.size, 3, none⟩ = some (.slice A d.length c) := S.cell 3
      go_wp2_with fail
      refine (number_at S 24 d.length 4 4 rfl hl6 (by omega) (by omega)).mono ?_
      rintro r w5 ⟨rfl, S5, hl7⟩
      clear S c3
      generalize hP3 : p2 ++ be d.length 4 = p3 at *
      have c3 : w5.cell? ⟨w.heap.size, 3, none⟩ = some (.slice A d.length c) := S5.cell 3
      go_wp2_with (with_reducible refine stop_append ?_)
      unfold Stopped
      refine wpList_append_fill rfl _ _ rfl g 28 N p3 rfl hl7 S5.fill (· < w.heap.size) A d.length c d rfl rfl (S5.rd hr0) (by omega) ?_
      intro w6 F6 hg6
      have S6 := S5.next F6 hg6
      have hl8 : (p3 ++ d).length = 28 + d.length := by rw [List.length_append, hl7]
      clear F6 hg6 c3 S5
      have hbody : p3 ++ d = body k e s d := by rw [← hP3, ← hP2, ← hP1]; rfl
      rw [hbody] at S6 hl8
      have HB := hide hbody
      clear hbody
      generalize hb2 : body k e s d = b at *
      go_wp2_with fail
      have S := sum_any (some ⟨g, 0, none⟩) N b (fun _ => True) w6 (S6.fill.rd trivial) (by rw [hl8]; omega)
      rw [hl8] at S
      refine S.mono ?_
      rintro r w7 ⟨rfl, hb7⟩
      have S7 := S6.after hb7
      clear S S6 hb7
      have hcl := (crcOf castagnoli 0#32 b).isLt
      go_wp2_with fail
      refine (number_at S7 (28 + d.length) (crcOf castagnoli 0#32 b).toNat 4 4 rfl hl8 (by omega) (by omega)).mono ?_
      rintro r w8 ⟨rfl, S8, hl9⟩
      clear S7
      go_wp2
      go_ret2
      rw [← hNN]
      refine ⟨⟨g, Nat.le_of_lt hgw, rfl, ?_⟩, S8.below⟩
      rw [hNN]
      have hr8 := S8.fill.row (by simp only [maxLen]; omega)
      have hfb : frameBytes k e s d = b ++ be (crcOf castagnoli 0#32 b).toNat 4 ++ List.replicate (N - (b ++ be (crcOf castagnoli 0#32 b).toNat 4).length) 0#8 := by
        unfold frameBytes sumOf
        rw [hb2, hNN, hl9, show 28 + d.length + 4 = 32 + d.length by omega]
      rw [hfb]
      exact hr8
end Go.Proofs.YtdkcjmpikmnedaaGreat
