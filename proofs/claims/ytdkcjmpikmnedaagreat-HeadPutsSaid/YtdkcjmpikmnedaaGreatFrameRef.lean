/- The walk through the reference's Put. -/
import Derived.Test.YtdkcjmpikmnedaaGreatFramePut
import Derived.Lib.SlBytesConst
namespace Go.Proofs.YtdkcjmpikmnedaaGreat
open Go.RowKit

/-- Where the reference's Put stands. -/
structure RPutSt (w wi : World) (v : Value) (l : List B8) (cs : Array Value) : Prop where
  own : OwnB wi (w.heap.size + 1) v l
  blk : Blk wi w.heap.size 111 cs
  below : Below w.heap.size w wi
section
variable {w wi wj : World} {v v' : Value} {l l' : List B8} {cs : Array Value}
theorem RPutSt.next (h : RPutSt w wi v l cs) (hf : OwnB wj (w.heap.size + 1) v' l') (hg : wi.grownBy wj v.ownBlock) : RPutSt w wj v' l' cs :=
  ⟨hf, h.blk.grown hg (fun e => by have := (h.own.lt _ e.symm).1; omega), h.below.trans (below_own h.own hg (Nat.le_succ _) h.below.size)⟩
theorem RPutSt.alloc (h : RPutSt w wi v l cs) (o : Obj) : RPutSt w (wi.alloc o) v l cs := ⟨h.own.alloc o, h.blk.alloc o, h.below.alloc h.below.size o⟩
theorem RPutSt.after (h : RPutSt w wi v l cs) (hb : Below wi.heap.size wi wj) : RPutSt w wj v l cs := ⟨h.own.below hb, h.blk.below hb h.blk.lt, h.below.trans (hb.mono h.below.size)⟩
theorem RPutSt.rd (h : RPutSt w wi v l cs) {A : Option Addr} {xs : List Value} (hr : Rd w (· < w.heap.size) A xs) : Rd wi (· < w.heap.size) A xs := hr.below h.below fun _ _ hb => hb
theorem RPutSt.cell (h : RPutSt w wi v l cs) (i : Nat) : wi.cell? ⟨w.heap.size, i, none⟩ = cs[i]? := h.blk.cell i
theorem RPutSt.size (h : RPutSt w wi v l cs) : w.heap.size + 1 ≤ wi.heap.size := h.blk.lt
end

theorem rnumber_at {w wi : World} {v : Value} {l : List B8} {cs : Array Value} (h : RPutSt w wi v l cs) (n z : Nat) (u : Int) (hu : u = (z : Int)) (hz : z ≤ 8) :
    Calls Tryz.prog 113 #[.int .u64 (n : Int), .int .i64 u] wi
      fun e w' => ∃ A c, e = .returned (.slice A z c) ∧ RPutSt w w' v l cs ∧ Rd w' (fun _ => True) A (bs (be n z)) ∧ (be n z).length = z := by
  subst hu
  refine (rnumber_any n z wi hz).mono ?_
  rintro e w' ⟨⟨v1, rfl, hown⟩, hb⟩
  obtain ⟨A, c, rfl, _⟩ := hown.form
  rw [be_length] at *
  refine ⟨A, c, rfl, h.after hb, ?_, rfl⟩
  have := OwnB.rd (l := be n z) (A := A) (c := c) (by rw [be_length]; exact hown) (P := fun _ => True) fun _ _ _ _ => trivial
  exact this

theorem rput_bad (k e s : Int) (v : Value) (w : World) (h : ¬ okNums k e s) :
    Calls Tryz.prog 73 #[.agg #[.int .i64 k, .int .i64 e, .int .i64 s, v]] w fun r w' => r = .returned (.tuple #[.slice none 0 0, .int .i64 2]) ∧ Below w.heap.size w w' := by
  have hb : Below w.heap.size w (w.alloc (.cells #[.int .i64 k, .int .i64 e, .int .i64 s, v] 111)) := (Below.refl _ _).alloc (Nat.le_refl _) _
  have hor : (decide (k < 0) || decide (255 < k) || decide (e < 0) || decide (1099511627776 < e) || decide (s < 0) || decide (1099511627776 < s)) = true := by
    rcases Classical.em (decide (k < 0) || decide (255 < k) || decide (e < 0) || decide (1099511627776 < e) || decide (s < 0) || decide (1099511627776 < s)) with h' | h'
    · exact h'
    · exfalso
      simp at h'
      exact h ⟨by omega, by omega, by omega, by omega, by omega, by omega⟩
  clear h
  go_enter Tryz.func73, Tryz.ntmps73
  go_wp2
  all_goals (go_ret2; exact ⟨rfl, hb⟩)

theorem rput_long (k e s : Int) (A : Option Addr) (n c : Nat) (w : World) (h : okNums k e s) (hn : 32768 < n) (hm : n ≤ 140737488351232) :
    Calls Tryz.prog 73 #[.agg #[.int .i64 k, .int .i64 e, .int .i64 s, .slice A n c]] w fun r w' => r = .returned (.tuple #[.slice none 0 0, .int .i64 3]) ∧ Below w.heap.size w w' := by
  have hb : Below w.heap.size w (w.alloc (.cells #[.int .i64 k, .int .i64 e, .int .i64 s, .slice A n c] 111)) := (Below.refl _ _).alloc (Nat.le_refl _) _
  obtain ⟨h1, h2, h3, h4, h5, h6⟩ := h
  go_enter Tryz.func73, Tryz.ntmps73
  go_wp2
  go_ret2
  exact ⟨rfl, hb⟩

set_option maxRecDepth 100000 in
set_option maxHeartbeats 1000000 in
theorem rput_good (k e s : Nat) (A : Option Addr) (c : Nat) (d : List B8) (P : Nat → Prop) (w : World) (hk : k ≤ 255) (he : e ≤ 1099511627776) (hs : s ≤ 1099511627776) (hd : d.length ≤ 32768) (hr : Rd w P A (bs d)) :
    Calls Tryz.prog 73 #[.agg #[.int .i64 k, .int .i64 e, .int .i64 s, .slice A d.length c]] w fun r w' =>
      (∃ v, r = .returned (.tuple #[v, .int .i64 0]) ∧ OwnB w' (w.heap.size + 1) v (frameBytes k e s d)) ∧ Below w.heap.size w w' := by
  have E1 : decide ((e : Int) < 0) = false := decide_eq_false (by omega)
  have E2 : decide (1099511627776 < (e : Int)) = false := decide_eq_false (by omega)
  have S1 : decide ((s : Int) < 0) = false := decide_eq_false (by omega)
  have S2 : decide (1099511627776 < (s : Int)) = false := decide_eq_false (by omega)
  have D1 : decide ((k : Int) < 0) = false := decide_eq_false (by omega)
  have D2 : decide (255 < (k : Int)) = false := decide_eq_false (by omega)
  have D3 : decide (32768 < (d.length : Int)) = false := decide_eq_false (by omega)
  have hr0 : Rd w (· < w.heap.size) A (bs d) := hr.imp fun b hb _ => hb
  go_enter Tryz.func73, Tryz.ntmps73
  have B0 : Blk (w.alloc (.cells #[.int .i64 k, .int .i64 e, .int .i64 s, .slice A d.length c] 111)) w.heap.size 111 #[.int .i64 k, .int .i64 e, .int .i64 s, .slice A d.length c] := Blk.new _ _ _
  have b0 : Below w.heap.size w (w.alloc (.cells #[.int .i64 k, .int .i64 e, .int .i64 s, .slice A d.length c] 111)) := (Below.refl _ _).alloc (Nat.le_refl _) _
  have z0 : (w.alloc (.cells #[.int .i64 k, .int .i64 e, .int .i64 s, .slice A d.length c] 111)).heap.size = w.heap.size + 1 := by simp
  have kc := Lib.run_convert_bytes_const (P := Tryz.prog) (w.alloc (.cells #[.int .i64 k, .int .i64 e, .int .i64 s, .slice A d.length c] 111)) 30 5 (bs peat).toArray 4 4 Tryz.underlying30 Tryz.underlying5
  rw [z0] at kc
  have kc2 : (bs peat).toArray = #[.int .u8 112, .int .u8 101, .int .u8 97, .int .u8 116] := rfl
  rw [kc2] at kc
  go_wp2_with (with_reducible refine stop_append ?_)
  unfold Stopped
  generalize w.alloc (.cells #[.int .i64 k, .int .i64 e, .int .i64 s, .slice A d.length c] 111) = w1 at *
  have rA : Rd (w1.alloc (.cells #[.int .u8 112, .int .u8 101, .int .u8 97, .int .u8 116] 5 (4, 5))) (· < w.heap.size + 2) (some ⟨w1.heap.size, 0, none⟩) (bs peat) := rd_alloc w1 _ _ (4, 5) _ kc2.symm _ (by omega)
  rw [z0] at rA
  have R0 : RPutSt w (w1.alloc (.cells #[.int .u8 112, .int .u8 101, .int .u8 97, .int .u8 116] 5 (4, 5))) (.slice none 0 0) [] #[.int .i64 k, .int .i64 e, .int .i64 s, .slice A d.length c] := ⟨OwnB.nil _ _, B0.alloc _, b0.alloc b0.size _⟩
  have z2 : (w1.alloc (.cells #[.int .u8 112, .int .u8 101, .int .u8 97, .int .u8 116] 5 (4, 5))).heap.size = w.heap.size + 1 + 1 := by simp [z0]
  generalize w1.alloc (.cells #[.int .u8 112, .int .u8 101, .int .u8 97, .int .u8 116] 5 (4, 5)) = w2 at *
  have rN : Rd (w2.alloc (.cells #[.int .u8 k, .int .u8 0, .int .u8 0, .int .u8 0] 5)) (fun _ => True) (some ⟨w2.heap.size, 0, none⟩) (bs [BitVec.ofNat 8 k, 0#8, 0#8, 0#8]) :=
    rd_alloc _ _ _ (0, 0) _ (by simp [bs, Nat.mod_eq_of_lt (show k < 256 by omega)]) _ trivial
  rw [z2] at rN
  have rA2 : Rd (w2.alloc (.cells #[.int .u8 k, .int .u8 0, .int .u8 0, .int .u8 0] 5)) (· < w.heap.size + 2) (some ⟨w.heap.size + 1, 0, none⟩) (bs peat) := rA.below ((Below.refl w2.heap.size w2).alloc (Nat.le_refl _) _) (fun b hb _ => hb)
  refine wpList_append_grow_u8 rfl _ _ rfl (w.heap.size + 1) ⟨w.heap.size + 1, 0, none⟩ 4 4 peat rfl rfl _ rA2 (fun _ => True) ⟨w.heap.size + 1 + 1, 0, none⟩ 4 4 [BitVec.ofNat 8 k, 0#8, 0#8, 0#8] rfl rfl rN (by decide) (by decide) (R0.alloc _).size ?_
  intro v3 w3 own3 hg3
  have R3 := (R0.alloc _).next own3 hg3
  clear R0 own3 hg3 rA rA2 rN kc kc2 B0 b0 z0 z2 hr
  have hlp : (peat ++ [BitVec.ofNat 8 k, 0#8, 0#8, 0#8]).length = 8 := rfl
  generalize hP1 : peat ++ [BitVec.ofNat 8 k, 0#8, 0#8, 0#8] = p1 at *
  have c1 : w3.cell? ⟨w.heap.size, 1, none⟩ = some (.int .i64 e) := R3.cell 1
  go_wp2_with (first | (with_reducible refine stop_append ?_) | fail)
  refine (rnumber_at R3 e 8 8 rfl (by omega)).mono ?_
  rintro r w4 ⟨A4, n4, rfl, R4, r4, l4⟩
  clear R3 c1
  go_wp2_with (first | (with_reducible refine stop_append ?_) | fail)
  unfold Stopped
  refine wpList_append_u8 rfl _ _ rfl (w.heap.size + 1) _ p1 rfl R4.own _ A4 8 n4 (be e 8) rfl l4 r4 (by rw [hlp, l4]; decide) R4.size ?_
  intro v5 w5 own5 hg5 hx
  clear hx
  have R5 := R4.next own5 hg5
  clear R4 own5 hg5 r4
  have hlp : (p1 ++ be e 8).length = 16 := by rw [List.length_append, hlp, l4]
  clear l4
  generalize hP2 : p1 ++ be e 8 = p2 at *
  have c2 : w5.cell? ⟨w.heap.size, 2, none⟩ = some (.int .i64 s) := R5.cell 2
  go_wp2_with (first | (with_reducible refine stop_append ?_) | fail)
  refine (rnumber_at R5 s 8 8 rfl (by omega)).mono ?_
  rintro r w6 ⟨A6, n6, rfl, R6, r6, l6⟩
  clear R5 c2
  go_wp2_with (first | (with_reducible refine stop_append ?_) | fail)
  unfold Stopped
  refine wpList_append_u8 rfl _ _ rfl (w.heap.size + 1) _ p2 rfl R6.own _ A6 8 n6 (be s 8) rfl l6 r6 (by rw [hlp, l6]; decide) R6.size ?_
  intro v7 w7 own7 hg7 hx
  clear hx
  have R7 := R6.next own7 hg7
  clear R6 own7 hg7 r6
  have hlp : (p2 ++ be s 8).length = 24 := by rw [List.length_append, hlp, l6]
  clear l6
  generalize hP3 : p2 ++ be s 8 = p3 at *
  have c3 : w7.cell? ⟨w.heap.size, 3, none⟩ = some (.slice A d.length c) := R7.cell 3
  go_wp2_with (first | (with_reducible refine stop_append ?_) | fail)
  refine (rnumber_at R7 d.length 4 4 rfl (by omega)).mono ?_
  rintro r w8 ⟨A8, n8, rfl, R8, r8, l8⟩
  clear R7 c3
  go_wp2_with (first | (with_reducible refine stop_append ?_) | fail)
  unfold Stopped
  refine wpList_append_u8 rfl _ _ rfl (w.heap.size + 1) _ p3 rfl R8.own _ A8 4 n8 (be d.length 4) rfl l8 r8 (by rw [hlp, l8]; decide) R8.size ?_
  intro v9 w9 own9 hg9 hx
  clear hx
  have R9 := R8.next own9 hg9
  clear R8 own9 hg9 r8
  have hlp : (p3 ++ be d.length 4).length = 28 := by rw [List.length_append, hlp, l8]
  clear l8
  generalize hP4 : p3 ++ be d.length 4 = p4 at *
  have c3 : w9.cell? ⟨w.heap.size, 3, none⟩ = some (.slice A d.length c) := R9.cell 3
  go_wp2_with (first | (with_reducible refine stop_append ?_) | fail)
  unfold Stopped
  refine wpList_append_u8 rfl _ _ rfl (w.heap.size + 1) _ p4 rfl R9.own _ A d.length c d rfl rfl (R9.rd hr0) (by rw [hlp]; omega) R9.size ?_
  intro v10 w10 own10 hg10 hx
  clear hx
  have R10 := R9.next own10 hg10
  clear R9 own10 hg10 c3
  have hlp : (p4 ++ d).length = 28 + d.length := by rw [List.length_append, hlp]
  have hbody : p4 ++ d = body k e s d := by rw [← hP4, ← hP3, ← hP2, ← hP1]; rfl
  rw [hbody] at R10 hlp
  clear hP1 hP2 hP3 hP4 hbody
  generalize hb2 : body k e s d = b at *
  obtain ⟨A10, n10, hv, _⟩ := R10.own.form
  have own10 := R10.own
  rw [hv] at own10
  have S := rsum_any A10 n10 b (fun _ => True) w10 (own10.rd fun _ _ _ _ => trivial) (by rw [hlp]; omega)
  rw [hlp] at S hv
  subst hv
  clear own10
  go_wp2_with (first | (with_reducible refine stop_append ?_) | fail)
  refine S.mono ?_
  rintro r w11 ⟨rfl, rfl⟩
  clear S
  have hcl := (crcOf castagnoli 0#32 b).isLt
  go_wp2_with (first | (with_reducible refine stop_append ?_) | fail)
  refine (rnumber_at R10 (crcOf castagnoli 0#32 b).toNat 4 4 rfl (by omega)).mono ?_
  rintro r w12 ⟨A12, n12, rfl, R12, r12, l12⟩
  clear R10
  go_wp2_with (first | (with_reducible refine stop_append ?_) | fail)
  unfold Stopped
  refine wpList_append_u8 rfl _ _ rfl (w.heap.size + 1) _ b rfl R12.own _ A12 4 n12 (be (crcOf castagnoli 0#32 b).toNat 4) rfl l12 r12 (by rw [hlp, l12]; omega) R12.size ?_
  intro v13 w13 own13 hg13 hx
  clear hx
  have R13 := R12.next own13 hg13
  clear R12 own13 hg13 r12
  have hlp2 : (b ++ be (crcOf castagnoli 0#32 b).toNat 4).length = 32 + d.length := by rw [List.length_append, hlp, l12]; omega
  have hfb : frameBytes k e s d = b ++ be (crcOf castagnoli 0#32 b).toNat 4 ++ List.replicate (512 * sectors d.length - (32 + d.length)) 0#8 := by
    unfold frameBytes sumOf
    rw [hb2]
  clear l12 hcl hlp hb2
  generalize b ++ be (crcOf castagnoli 0#32 b).toNat 4 = p5 at *
  have hq1 : 512 * sectors d.length ≤ d.length + 543 := by unfold sectors; omega
  have hq2 : d.length + 543 < 512 * sectors d.length + 512 := by unfold sectors; omega
  generalize hsec : sectors d.length = q at *
  have HF := hide hfb
  clear hfb hsec E1 E2 S1 S2 D1 D2 D3
  go_wp2_with fail
  go_loopw [4] (fun v wr => ∃ (j : Nat) (A' : Option Addr) (c' : Nat), v = .slice A' (32 + d.length + j) c' ∧ j ≤ 512 * q - (32 + d.length) ∧ RPutSt w wr v (p5 ++ List.replicate j 0#8) #[.int .i64 k, .int .i64 e, .int .i64 s, .slice A d.length c]) (fun v _ => 34000 - (match v with | .slice _ n _ => n | _ => 0))
  case atStart =>
    obtain ⟨A13, n13, hv, _⟩ := R13.own.form
    rw [hlp2] at hv
    subst hv
    exact ⟨0, A13, n13, rfl, Nat.zero_le _, by rw [List.replicate_zero, List.append_nil]; exact R13⟩
  case round =>
    obtain ⟨j, A', c', rfl, hj, R⟩ := hrel
    by_cases hlt : j < 512 * q - (32 + d.length)
    · have hm : ((32 + (d.length : Int) + (j : Int)) % 512 != 0) = true := by rw [bne_iff_ne]; omega
      have hm2 : ((32 + d.length + j) % 512 != 0) = true := by rw [bne_iff_ne]; omega
      go_wp2_with (first | (with_reducible refine stop_append ?_) | fail)
      unfold Stopped
      refine wpList_append_u8 rfl _ _ rfl (w.heap.size + 1) _ (p5 ++ List.replicate j 0#8) rfl (R.alloc _).own (fun _ => True) (some ⟨wr.heap.size, 0, none⟩) 1 1 [0#8] rfl rfl (rd_one wr 0#8 _ trivial) (by simp [hlp2]; omega) (R.alloc _).size ?_
      intro v14 w14 own14 hg14 hx
      clear hx
      have R14 := (R.alloc _).next own14 hg14
      have hl14 : (p5 ++ List.replicate j 0#8 ++ [0#8]).length = 32 + d.length + (j + 1) := by
        rw [List.length_append, List.length_append, hlp2, List.length_replicate]; rfl
      have hr14 : p5 ++ List.replicate j 0#8 ++ [0#8] = p5 ++ List.replicate (j + 1) 0#8 := by rw [List.append_assoc, List.replicate_succ']
      obtain ⟨A14, n14, hv, _⟩ := R14.own.form
      rw [hl14] at hv
      rw [hr14] at R14
      subst hv
      clear R own14 hg14
      go_wp2
      go_roundw
      case rel => exact ⟨j + 1, A14, n14, rfl, by omega, R14⟩
      case measure =>
        show 34000 - (32 + d.length + (j + 1)) < 34000 - (32 + d.length + j)
        omega
    · obtain rfl : j = 512 * q - (32 + d.length) := by omega
      have hm : ((32 + (d.length : Int) + ((512 * q - (32 + d.length) : Nat) : Int)) % 512 != 0) = false := by simp; omega
      have hm2 : ((32 + d.length + (512 * q - (32 + d.length))) % 512 != 0) = false := by simp; omega
      go_wp2
      go_ret2
      refine ⟨⟨_, rfl, ?_⟩, R.below⟩
      rw [HF.out]
      exact R.own
end Go.Proofs.YtdkcjmpikmnedaaGreat
