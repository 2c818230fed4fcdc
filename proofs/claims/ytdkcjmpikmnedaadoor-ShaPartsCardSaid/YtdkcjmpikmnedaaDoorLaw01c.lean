/- The walk through ShaTwo. -/
import Derived.Test.YtdkcjmpikmnedaaDoorLaw01b
namespace Go.Proofs.YtdkcjmpikmnedaaDoor
open Go.RowKit
set_option linter.unusedSimpArgs false

set_option maxRecDepth 100000 in
set_option maxHeartbeats 3200000 in
theorem shaTwo_any (A A' : Option Addr) (c c' : Nat) (a b : List B8) (P P' : Nat → Prop) (w : World) (hL : Laid w) (hr : Rd w P A (bs a)) (hr' : Rd w P' A' (bs b)) (ha : a.length ≤ 4611686018427387904) (hb : b.length ≤ 4611686018427387903) :
    Calls Tryd.prog 7 #[.slice A a.length c, .slice A' b.length c'] w fun e w' => e = .returned (.bool true) ∧ Below w.heap.size w w' := by
  have n0 := hL.lt
  have ws : IntKind.i64.wrap ((a.length : Int) + (b.length : Int)) = (a.length : Int) + (b.length : Int) := by rw [IntKind.wrap_i64]; omega
  by_cases hl : 3000 < a.length + b.length
  · have hli : (3000 : Int) < (a.length : Int) + (b.length : Int) := by omega
    go_enter Tryd.func7, Tryd.ntmps7
    go_wp2_with fail
    refine (awake_any w hL).mono ?_
    rintro e w1 ⟨rfl, b1⟩
    go_wp2
    go_ret
    exact ⟨rfl, b1⟩
  · have hli : ¬ (3000 : Int) < (a.length : Int) + (b.length : Int) := by omega
    have la : a.length ≤ 3000 := by omega
    have lb : b.length ≤ 3000 := by omega
    have ra : Rd w (fun x => x < w.heap.size) A (bs a) := hr.imp fun x hx _ => hx
    have rb : Rd w (fun x => x < w.heap.size) A' (bs b) := hr'.imp fun x hx _ => hx
    clear hr hr'
    go_enter Tryd.func7, Tryd.ntmps7
    go_wp2_with fail
    refine (awake_any w hL).mono ?_
    rintro e w1 ⟨rfl, b1⟩
    have hL1 := hL.below b1 n0
    have n1 := b1.size
    go_wp2_with fail
    refine (new_is w1 hL1).mono ?_
    rintro e w2 ⟨rfl, X2, b2⟩
    have bb2 := b1.trans (b2.mono n1)
    have hL2 := hL.below bb2 n0
    have n2 : w1.heap.size + 1 < w2.heap.size := X2.hash.lt
    clear b1 b2 hL1
    generalize w1.heap.size = k1 at *
    go_wp2_with fail
    refine (new_is w2 hL2).mono ?_
    rintro e w3 ⟨rfl, Y3, b3⟩
    have bb3 := bb2.trans (b3.mono bb2.size)
    have hL3 := hL.below bb3 n0
    have X3 := X2.below b3 (Nat.le_refl _)
    have n3 : w2.heap.size + 1 < w3.heap.size := Y3.hash.lt
    clear bb2 b3 hL2 X2
    generalize w2.heap.size = k2 at *
    -- x.Write(a)
    go_wp2_with fail
    refine (write_any _ _ _ [] a A c _ w3 X3 hL3.rks (ra.below bb3 fun x _ h => h) (fun x hx => ⟨by omega, by omega, by simp [Value.ownBlock]⟩) (by simp; omega)).mono ?_
    rintro e w4 ⟨rfl, vx, X4, ox, g4⟩
    rw [List.nil_append] at X4 ox
    have bb4 := bb3.trans (g4.below (B := w.heap.size) (by omega) fun x hx h => by rcases h with h | h | h <;> first | omega | (simp [Value.ownBlock] at h))
    have Y4 := Y3.chg g4 (by rintro (h | h | h) <;> first | omega | (simp [Value.ownBlock] at h)) (by rintro (h | h | h) <;> first | omega | (simp [Value.ownBlock] at h)) (fun g h => by simp [Value.ownBlock] at h)
    have ex : ∀ g, vx.ownBlock = some g → w3.heap.size ≤ g ∧ g < w4.heap.size := ox.lt
    have n4 := g4.size
    clear X3 Y3 g4 bb3 hL3 ox
    -- y.Write(b)
    go_wp2_with fail
    refine (write_any _ _ _ [] b A' c' _ w4 Y4 (hL.below bb4 n0).rks (rb.below bb4 fun x _ h => h) (fun x hx => ⟨by omega, by omega, by simp [Value.ownBlock]⟩) (by simp; omega)).mono ?_
    rintro e w5 ⟨rfl, vy, Y5, oy, g5⟩
    rw [List.nil_append] at Y5 oy
    have bb5 := bb4.trans (g5.below (B := w.heap.size) (by omega) fun x hx h => by rcases h with h | h | h <;> first | omega | (simp [Value.ownBlock] at h))
    have X5 := X4.chg g5 (by rintro (h | h | h) <;> first | omega | (simp [Value.ownBlock] at h)) (by rintro (h | h | h) <;> first | omega | (simp [Value.ownBlock] at h)) (fun g hg h => by
      have := ex g hg
      rcases h with h | h | h <;> first | omega | (simp [Value.ownBlock] at h))
    have ey : ∀ g, vy.ownBlock = some g → w4.heap.size ≤ g ∧ g < w5.heap.size := oy.lt
    have n5 := g5.size
    clear X4 Y4 g5 bb4 oy
    -- x.Write(b)
    go_wp2_with fail
    refine (write_any _ _ _ a b A' c' _ w5 X5 (hL.below bb5 n0).rks (rb.below bb5 fun x _ h => h) (fun x hx => ⟨by omega, by omega, fun h => by have := ex x h.symm; omega⟩) (by omega)).mono ?_
    rintro e w6 ⟨rfl, vx2, X6, ox, g6⟩
    have bb6 := bb5.trans (g6.below (B := w.heap.size) (by omega) fun x hx h => by rcases h with h | h | h <;> first | omega | (have := ex x h.symm; omega))
    have Y6 := Y5.chg g6 (by rintro (h | h | h) <;> first | omega | (have := ex _ h.symm; omega)) (by rintro (h | h | h) <;> first | omega | (have := ex _ h.symm; omega)) (fun g hg h => by
      have := ey g hg
      rcases h with h | h | h <;> first | omega | (have := ex g h.symm; omega))
    have ex2 : ∀ g, vx2.ownBlock = some g → w5.heap.size ≤ g ∧ g < w6.heap.size := ox.lt
    have n6 := g6.size
    clear X5 Y5 g6 bb5 ox ex
    -- y.Write(a)
    go_wp2_with fail
    refine (write_any _ _ _ b a A c _ w6 Y6 (hL.below bb6 n0).rks (ra.below bb6 fun x _ h => h) (fun x hx => ⟨by omega, by omega, fun h => by have := ey x h.symm; omega⟩) (by omega)).mono ?_
    rintro e w7 ⟨rfl, vy2, Y7, oy, g7⟩
    have bb7 := bb6.trans (g7.below (B := w.heap.size) (by omega) fun x hx h => by rcases h with h | h | h <;> first | omega | (have := ey x h.symm; omega))
    have X7 := X6.chg g7 (by rintro (h | h | h) <;> first | omega | (have := ey _ h.symm; omega)) (by rintro (h | h | h) <;> first | omega | (have := ey _ h.symm; omega)) (fun g hg h => by
      have := ex2 g hg
      rcases h with h | h | h <;> first | omega | (have := ey g h.symm; omega))
    have ey2 : ∀ g, vy2.ownBlock = some g → w6.heap.size ≤ g ∧ g < w7.heap.size := oy.lt
    have n7 := g7.size
    clear X6 Y6 g7 bb6 oy ey
    -- ab
    have bbA : Below w7.heap.size w7 (w7.alloc (.cells #[] 5)) := (Below.refl _ _).alloc (Nat.le_refl _) _
    have oA : OwnB (w7.alloc (.cells #[] 5)) w7.heap.size (.slice (some ⟨w7.heap.size, 0, none⟩) 0 0) [] := (RowB.of_blk (l := []) (Blk.new w7 5 #[]) (by simp [maxLen])).own (Nat.le_refl _)
    have rA : Rd (w7.alloc (.cells #[] 5)) (fun x => x < w.heap.size) A (bs a) := (ra.below bb7 fun x _ h => h).below bbA fun x _ h => by omega
    go_wp2_with (with_reducible refine stop_append ?_)
    unfold Stopped
    refine wpList_append_u8 rfl _ _ rfl w7.heap.size _ [] rfl oA _ A a.length c a rfl rfl rA (by simp; omega) (by simp) ?_
    intro v9 w9 o9 g9 hv9
    rw [List.nil_append] at o9
    have bbB : Below w7.heap.size w7 w9 := bbA.trans ⟨g9.os, g9.tape, g9.output, g9.size, fun k hk => g9.block k (by simp; omega) (fun e => by have := (oA.lt k e.symm).1; omega)⟩
    have rB : Rd w9 (fun x => x < w.heap.size) A' (bs b) := (rb.below bb7 fun x _ h => h).below bbB fun x _ h => by omega
    clear oA rA bbA g9 hv9
    go_wp2_with (with_reducible refine stop_append ?_)
    unfold Stopped
    refine wpList_append_u8 rfl _ _ rfl w7.heap.size _ a rfl o9 _ A' b.length c' b rfl rfl rB (by omega) (by have := bbB.size; omega) ?_
    intro v10 w10 o10 g10 hv10
    have bbC : Below w7.heap.size w7 w10 := bbB.trans ⟨g10.os, g10.tape, g10.output, g10.size, fun k hk => g10.block k (by have := bbB.size; omega) (fun e => by have := (o9.lt k e.symm).1; omega)⟩
    have bb10 := bb7.trans (bbC.mono (by omega))
    have X10 := X7.below bbC (Nat.le_refl _)
    have Y10 := Y7.below bbC (Nat.le_refl _)
    have n10 := bbC.size
    clear o9 bbB rB g10 hv10 X7 Y7 bb7
    obtain ⟨A10, c10, rfl, hc10⟩ := o10.form
    have O10 := o10
    -- ba
    have bbA : Below w10.heap.size w10 (w10.alloc (.cells #[] 5)) := (Below.refl _ _).alloc (Nat.le_refl _) _
    have oA : OwnB (w10.alloc (.cells #[] 5)) w10.heap.size (.slice (some ⟨w10.heap.size, 0, none⟩) 0 0) [] := (RowB.of_blk (l := []) (Blk.new w10 5 #[]) (by simp [maxLen])).own (Nat.le_refl _)
    have rA : Rd (w10.alloc (.cells #[] 5)) (fun x => x < w.heap.size) A' (bs b) := (rb.below bb10 fun x _ h => h).below bbA fun x _ h => by omega
    go_wp2_with (with_reducible refine stop_append ?_)
    unfold Stopped
    refine wpList_append_u8 rfl _ _ rfl w10.heap.size _ [] rfl oA _ A' b.length c' b rfl rfl rA (by simp; omega) (by simp) ?_
    intro v11 w11 o11 g11 hv11
    rw [List.nil_append] at o11
    have bbB : Below w10.heap.size w10 w11 := bbA.trans ⟨g11.os, g11.tape, g11.output, g11.size, fun k hk => g11.block k (by simp; omega) (fun e => by have := (oA.lt k e.symm).1; omega)⟩
    have rB : Rd w11 (fun x => x < w.heap.size) A (bs a) := (ra.below bb10 fun x _ h => h).below bbB fun x _ h => by omega
    clear oA rA bbA g11 hv11
    go_wp2_with (with_reducible refine stop_append ?_)
    unfold Stopped
    refine wpList_append_u8 rfl _ _ rfl w10.heap.size _ b rfl o11 _ A a.length c a rfl rfl rB (by omega) (by have := bbB.size; omega) ?_
    intro v12 w12 o12 g12 hv12
    have bbC : Below w10.heap.size w10 w12 := bbB.trans ⟨g12.os, g12.tape, g12.output, g12.size, fun k hk => g12.block k (by have := bbB.size; omega) (fun e => by have := (o11.lt k e.symm).1; omega)⟩
    have bb12 := bb10.trans (bbC.mono (by omega))
    have X12 := X10.below bbC (Nat.le_refl _)
    have Y12 := Y10.below bbC (Nat.le_refl _)
    have n12 := bbC.size
    have o10' := o10.below bbC
    clear o11 bbB rB g12 hv12 X10 Y10 bb10 O10 o10 bbC
    obtain ⟨A12, c12, rfl, hc12⟩ := o12.form
    have EQ1 := digest_same (a ++ b)
    have EQ2 := digest_same (b ++ a)
    have m1 : (a ++ b).length ≤ 3000 := by rw [List.length_append]; omega
    have m2 : (b ++ a).length ≤ 3000 := by rw [List.length_append]; omega
    have HL1 := hide (show a.length + b.length = (a ++ b).length by rw [List.length_append])
    have HL2 := hide (show b.length + a.length = (b ++ a).length by rw [List.length_append])
    go_wp2_with fail
    refine (sum_first _ _ vx2 (a ++ b) w12 X12 (hL.below bb12 n0).rks (by omega)).mono ?_
    rintro e w13 ⟨rfl, _, g13⟩
    have Y13 := Y12.chg g13 (by rintro (h | h | h) <;> first | omega | (have := ex2 _ h.symm; omega)) (by rintro (h | h | h) <;> first | omega | (have := ex2 _ h.symm; omega)) (fun g hg h => by
      have := ey2 g hg
      rcases h with h | h | h <;> first | omega | (have := ex2 g h.symm; omega))
    have bb13 := bb12.trans (g13.below (B := w.heap.size) (by omega) fun x hx h => by rcases h with h | h | h <;> first | omega | (have := ex2 x h.symm; omega))
    have p10 := g13.own o10' (fun g hg h => by
      have := o10'.lt g hg
      rcases h with h | h | h <;> first | omega | (have := ex2 g h.symm; omega))
    have p12 := g13.own o12 (fun g hg h => by
      have := o12.lt g hg
      rcases h with h | h | h <;> first | omega | (have := ex2 g h.symm; omega))
    have n13 := g13.size
    clear X12 Y12 g13 o10' o12 bb12
    generalize hab : a ++ b = ab at *
    generalize hba : b ++ a = ba at *
    clear hab hba
    rw [HL1.out, HL2.out]
    go_wp2_with fail
    refine (shaSum_any A10 c10 ab (fun _ => True) w13 (hL.below bb13 n0) (p10.rd fun _ _ _ _ => trivial) (by omega)).mono ?_
    rintro e w14 ⟨rfl, b14⟩
    have Y14 := Y13.below b14 (Nat.le_refl _)
    have p14 := p12.below b14
    have bb14 := bb13.trans (b14.mono bb13.size)
    clear Y13 p10 p12 bb13
    go_wp2_with fail
    refine (sum_first _ _ vy2 ba w14 Y14 (hL.below bb14 n0).rks (by omega)).mono ?_
    rintro e w15 ⟨rfl, _, g15⟩
    have n14 := b14.size
    have bb15 := bb14.trans (g15.below (B := w.heap.size) (by omega) fun x hx h => by rcases h with h | h | h <;> first | omega | (have := ey2 x h.symm; omega))
    have p15 := g15.own p14 (fun g hg h => by
      have := p14.lt g hg
      rcases h with h | h | h <;> first | omega | (have := ey2 g h.symm; omega))
    go_wp2_with fail
    refine (shaSum_any A12 c12 ba (fun _ => True) w15 (hL.below bb15 n0) (p15.rd fun _ _ _ _ => trivial) (by omega)).mono ?_
    rintro e w16 ⟨rfl, b16⟩
    have bb16 := bb15.trans (b16.mono bb15.size)
    clear Y14 p14 p15 bb14 g15
    have HD1 := hide (show (bs (digest ab)).toArray.size = 32 by rw [List.size_toArray, bs_length, digest_length])
    go_wp2
    go_ret
    exact ⟨rfl, bb16⟩
end Go.Proofs.YtdkcjmpikmnedaaDoor
