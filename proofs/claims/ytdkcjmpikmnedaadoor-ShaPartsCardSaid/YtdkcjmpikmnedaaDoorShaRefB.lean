/- The walk through the reference's block. -/
import Derived.Test.YtdkcjmpikmnedaaDoorShaRef
namespace Go.Proofs.YtdkcjmpikmnedaaDoor
open Go.RowKit
set_option linter.unusedSimpArgs false

theorem rnext_val (x16 x7 x15 x2 : B32) : ((((x16.toNat : Int) + bits .xor .u32 (bits .xor .u32 ((rot x15 7).toNat : Int) ((rot x15 18).toNat : Int)) ((x15.toNat : Int) / (8 : Int))) % 4294967296 + (x7.toNat : Int)) % 4294967296 +
      bits .xor .u32 (bits .xor .u32 ((rot x2 17).toNat : Int) ((rot x2 19).toNat : Int)) ((x2.toNat : Int) / (1024 : Int))) % 4294967296 = ((x16 + x7 + sg0 x15 + sg1 x2).toNat : Int) := by
  rw [m32_shr3, m32_shr10, u32_xor, u32_xor, u32_xor, u32_xor, m32_add, m32_add, m32_add, next_eq x16 x7]
  rfl

abbrev w0 : Wds := ⟨0#32, 0#32, 0#32, 0#32, 0#32, 0#32, 0#32, 0#32⟩
/-- The first three blocks of a run of block. -/
structure RB (w : World) (s : Wds) (W : Array Value) (wr : World) : Prop where
  h : Blk wr w.heap.size 58 s.cs
  r : Blk wr (w.heap.size + 1) 58 w0.cs
  wv : Blk wr (w.heap.size + 1 + 1) 64 W
  bel : Below w.heap.size w wr
theorem RB.drewN {w : World} {s : Wds} {W : Array Value} {wr : World} (h : RB w s W wr) (n : Nat) : RB w s W (wr.drewN n) := ⟨h.h, h.r, h.wv, h.bel.trans (drewN_below _ wr n)⟩
theorem RB.drew {w : World} {s : Wds} {W : Array Value} {wr : World} (h : RB w s W wr) : RB w s W wr.drew := h.drewN 1
theorem RB.set_ {w : World} {s : Wds} {W : Array Value} {wr : World} (h : RB w s W wr) (k : Nat) (v : Value) : RB w s (W.setIfInBounds k v) (wr.setCell ⟨w.heap.size + 1 + 1, k, none⟩ v) :=
  ⟨h.h.far (by simp; omega) v, h.r.far (by simp) v, h.wv.set_ k v, h.bel.setCell (by simp; omega) v⟩
theorem RB.val {w : World} {s : Wds} {W : Array Value} {wr : World} {p : Addr} {z z' : Int} (h : RB w s W (wr.setCell p (.int .u32 z))) (e : z' = z) : RB w s W (wr.setCell p (.int .u32 z')) := e ▸ h
theorem RB.chg {w : World} {s : Wds} {W : Array Value} {wr w' : World} {K : Nat → Prop} (h : RB w s W wr) (hc : Chg K wr w') (hK : ∀ b, K b → w.heap.size + 1 + 1 < b) : RB w s W w' :=
  ⟨hc.blk h.h fun e => by have := hK _ e; omega, hc.blk h.r fun e => by have := hK _ e; omega, hc.blk h.wv fun e => by have := hK _ e; omega, h.bel.trans (hc.below h.bel.size fun b hb e => by have := hK _ e; omega)⟩
theorem Chg.setRow (w : World) (g : Nat) (cells : Array Value) : Chg (fun b => b = g) w (w.setRow g cells) := ⟨rfl, rfl, rfl, by simp, fun b _ hb => setRow_other w g b cells hb⟩
theorem blk_setRow {w : World} {g : Nat} {t : TypeId} {cs : Array Value} (h : Blk w g t cs) (cells : Array Value) : Blk (w.setRow g cells) g t cells := setRow_heap w g _ _ _ _ h
theorem rt2 (x : B32) (w : World) : Calls Tryd.prog 26 #[.int .u32 x.toNat, .int .u64 2] w fun e w' => e = .returned (.int .u32 (rot x 2).toNat) ∧ w = w' := rturned_any x 2 (by decide) (by decide) w
theorem rt6 (x : B32) (w : World) : Calls Tryd.prog 26 #[.int .u32 x.toNat, .int .u64 6] w fun e w' => e = .returned (.int .u32 (rot x 6).toNat) ∧ w = w' := rturned_any x 6 (by decide) (by decide) w
theorem rt11 (x : B32) (w : World) : Calls Tryd.prog 26 #[.int .u32 x.toNat, .int .u64 11] w fun e w' => e = .returned (.int .u32 (rot x 11).toNat) ∧ w = w' := rturned_any x 11 (by decide) (by decide) w
theorem rt25 (x : B32) (w : World) : Calls Tryd.prog 26 #[.int .u32 x.toNat, .int .u64 25] w fun e w' => e = .returned (.int .u32 (rot x 25).toNat) ∧ w = w' := rturned_any x 25 (by decide) (by decide) w
theorem rksA_at (k : Nat) (h : k < 64) : rksA[k]? = some (.int .u32 ((rks.getD k 0).toNat : Int)) := by unfold rksA; rw [List.getElem?_toArray]; exact w32_at rks k h
theorem rksA_size : rksA.size = 64 := by kernel_rfl
theorem rksA_one : rksA.all (·.oneCell') = true := all_oneCell_toArray (w32_one _)
theorem u32_sgn : (if IntKind.u32.signed = true then (-1 : Int) else IntKind.u32.max) = IntKind.u32.max := rfl
theorem Wds.cs_size (s : Wds) : s.cs.size = 8 := rfl
theorem RB.begin (w : World) (s : Wds) (W : Array Value) : RB w s W (((w.alloc (.cells s.cs 58)).alloc (.cells w0.cs 58)).alloc (.cells W 64)) := by
  have hb0 : Blk (w.alloc (.cells s.cs 58)) w.heap.size 58 s.cs := Blk.new w _ _
  have q1 : (w.alloc (.cells s.cs 58)).heap.size = w.heap.size + 1 := by simp
  have hb1 := Blk.new (w.alloc (.cells s.cs 58)) 58 w0.cs
  rw [q1] at hb1
  have q2 : ((w.alloc (.cells s.cs 58)).alloc (.cells w0.cs 58)).heap.size = w.heap.size + 1 + 1 := by simp
  have hb2 := Blk.new ((w.alloc (.cells s.cs 58)).alloc (.cells w0.cs 58)) 64 W
  rw [q2] at hb2
  have b1 : Below w.heap.size w ((w.alloc (.cells s.cs 58)).alloc (.cells w0.cs 58)) := ((Below.refl _ _).alloc (Nat.le_refl _) _).alloc (by simp) _
  exact ⟨(hb0.alloc _).alloc _, hb1.alloc _, hb2, b1.alloc (by omega) _⟩

set_option maxRecDepth 100000 in
set_option maxHeartbeats 16000000 in
theorem rblock_any (s : Wds) (A : Option Addr) (c : Nat) (m : List B8) (P : Nat → Prop) (w : World) (hm : 64 ≤ m.length) (hr : Rd w P A (bs m)) :
    Calls Tryd.prog 21 #[.agg s.cs, .slice A m.length c] w fun e w' => e = .returned (.agg (comp s m).cs) ∧ Below w.heap.size w w' := by
  have R0 := RB.begin w s (schC m 0)
  go_enter Tryd.func21, Tryd.ntmps21
  go_wp2_with fail
  go_loopw [6] (fun i wr => ∃ k : Nat, k ≤ 16 ∧ i = .int .i64 k ∧ RB w s (schC m k) wr) (fun i _ => 16 - (intOf i).toNat)
  case atStart => exact ⟨0, by omega, rfl, R0⟩
  case round =>
    clear R0
    obtain ⟨k, hk, rfl, R⟩ := hrel
    by_cases hlt : k < 16
    · obtain ⟨b, off, rfl, _, hc⟩ := (hr.old (Below.refl _ _)).below R.bel (fun b _ h => h.2) (by simp; omega)
      obtain ⟨q0, E0⟩ : ∃ q, q = 4 * k := ⟨_, rfl⟩
      obtain ⟨q1, E1⟩ : ∃ q, q = 4 * k + 1 := ⟨_, rfl⟩
      obtain ⟨q2, E2⟩ : ∃ q, q = 4 * k + 2 := ⟨_, rfl⟩
      obtain ⟨q3, E3⟩ : ∃ q, q = 4 * k + 3 := ⟨_, rfl⟩
      have h0 := hc q0 (by simp; omega)
      have h1 := hc q1 (by simp; omega)
      have h2 := hc q2 (by simp; omega)
      have h3 := hc q3 (by simp; omega)
      rw [bs_getD] at h0 h1 h2 h3
      have NX := hide (show nextW m (sch m k) = bew (m.getD q0 0) (m.getD q1 0) (m.getD q2 0) (m.getD q3 0) by unfold nextW; rw [sch_length, if_pos hlt, E0, E1, E2, E3])
      generalize m.getD q0 0 = p0 at *
      generalize m.getD q1 0 = p1 at *
      generalize m.getD q2 0 = p2 at *
      generalize m.getD q3 0 = p3 at *
      have R0 : IntKind.i64.wrap (4 * (k : Int)) = (q0 : Int) := by rw [IntKind.wrap_i64]; omega
      have R1 : IntKind.i64.wrap ((q0 : Int) + 1) = (q1 : Int) := by rw [IntKind.wrap_i64]; omega
      have R2 : IntKind.i64.wrap ((q0 : Int) + 2) = (q2 : Int) := by rw [IntKind.wrap_i64]; omega
      have R3 : IntKind.i64.wrap ((q0 : Int) + 3) = (q3 : Int) := by rw [IntKind.wrap_i64]; omega
      have L0 : (q0 : Int) < (m.length : Int) := by omega
      have L1 : (q1 : Int) < (m.length : Int) := by omega
      have L2 : (q2 : Int) < (m.length : Int) := by omega
      have L3 : (q3 : Int) < (m.length : Int) := by omega
      have L6 : (k : Int) < 64 := by omega
      have HE := hide (And.intro E0 (And.intro E1 (And.intro E2 E3)))
      clear E0 E1 E2 E3
      clear hc
      have g0 : wr.cell? ⟨w.heap.size + 1 + 1, k, none⟩ = some (.int .u32 0) := by rw [R.wv.cell, schC_new m k (by omega)]
      have f0 := R.wv.frozen k
      go_wp2_with fail
      refine wp_region_sink 35 (fun wx => Drew wr wx) (by kernel_rfl) (Drew.one (Drew.refl _)) (fun hHeld => ?_)
      refine sink_take (i := 0) (oi := _) (v := ?_) rfl (by kernel_rfl) (by decide) (by kernel_rfl) (by kernel_rfl) (by kernel_rfl) (by kernel_rfl) (fun _ _ _ h => h) (by rfl) (fun wx hSw => ?_) hHeld ?_
      rotate_left
      · have e0 := (hSw.cell _).trans h0; have e1 := (hSw.cell _).trans h1; have e2 := (hSw.cell _).trans h2; have e3 := (hSw.cell _).trans h3; go_simp
        with_reducible rfl
      try simp only [Act.put, List.setIfInBounds_toArray, List.set_cons_zero, List.set_cons_succ]
      refine sink_take (i := 1) (oi := _) (v := ?_) rfl (by kernel_rfl) (by decide) (by kernel_rfl) (by kernel_rfl) (by kernel_rfl) (by kernel_rfl) (fun _ _ _ h => h) (by rfl) (fun wx hSw => ?_) hHeld ?_
      rotate_left
      · have e0 := (hSw.cell _).trans h0; have e1 := (hSw.cell _).trans h1; have e2 := (hSw.cell _).trans h2; have e3 := (hSw.cell _).trans h3; go_simp
        with_reducible rfl
      try simp only [Act.put, List.setIfInBounds_toArray, List.set_cons_zero, List.set_cons_succ]
      refine sink_take (i := 2) (oi := _) (v := ?_) rfl (by kernel_rfl) (by decide) (by kernel_rfl) (by kernel_rfl) (by kernel_rfl) (by kernel_rfl) (fun _ _ _ h => h) (by rfl) (fun wx hSw => ?_) hHeld ?_
      rotate_left
      · have e0 := (hSw.cell _).trans h0; have e1 := (hSw.cell _).trans h1; have e2 := (hSw.cell _).trans h2; have e3 := (hSw.cell _).trans h3; go_simp
        with_reducible rfl
      try simp only [Act.put, List.setIfInBounds_toArray, List.set_cons_zero, List.set_cons_succ]
      refine sink_take (i := 3) (oi := _) (v := ?_) rfl (by kernel_rfl) (by decide) (by kernel_rfl) (by kernel_rfl) (by kernel_rfl) (by kernel_rfl) (fun _ _ _ h => h) (by rfl) (fun wx hSw => ?_) hHeld ?_
      rotate_left
      · have e0 := (hSw.cell _).trans h0; have e1 := (hSw.cell _).trans h1; have e2 := (hSw.cell _).trans h2; have e3 := (hSw.cell _).trans h3; go_simp
        with_reducible rfl
      try simp only [Act.put, List.setIfInBounds_toArray, List.set_cons_zero, List.set_cons_succ]
      refine sink_take (i := 4) (oi := _) (v := ?_) rfl (by kernel_rfl) (by decide) (by kernel_rfl) (by kernel_rfl) (by kernel_rfl) (by kernel_rfl) (fun _ _ _ h => h) (by rfl) (fun wx hSw => ?_) hHeld ?_
      rotate_left
      · have e0 := (hSw.cell _).trans h0; have e1 := (hSw.cell _).trans h1; have e2 := (hSw.cell _).trans h2; have e3 := (hSw.cell _).trans h3; go_simp
        with_reducible rfl
      try simp only [Act.put, List.setIfInBounds_toArray, List.set_cons_zero, List.set_cons_succ]
      refine sink_take (i := 5) (oi := _) (v := ?_) rfl (by kernel_rfl) (by decide) (by kernel_rfl) (by kernel_rfl) (by kernel_rfl) (by kernel_rfl) (fun _ _ _ h => h) (by rfl) (fun wx hSw => ?_) hHeld ?_
      rotate_left
      · have e0 := (hSw.cell _).trans h0; have e1 := (hSw.cell _).trans h1; have e2 := (hSw.cell _).trans h2; have e3 := (hSw.cell _).trans h3; go_simp
        with_reducible rfl
      try simp only [Act.put, List.setIfInBounds_toArray, List.set_cons_zero, List.set_cons_succ]
      refine sink_take (i := 6) (oi := _) (v := ?_) rfl (by kernel_rfl) (by decide) (by kernel_rfl) (by kernel_rfl) (by kernel_rfl) (by kernel_rfl) (fun _ _ _ h => h) (by rfl) (fun wx hSw => ?_) hHeld ?_
      rotate_left
      · have e0 := (hSw.cell _).trans h0; have e1 := (hSw.cell _).trans h1; have e2 := (hSw.cell _).trans h2; have e3 := (hSw.cell _).trans h3; go_simp
        with_reducible rfl
      try simp only [Act.put, List.setIfInBounds_toArray, List.set_cons_zero, List.set_cons_succ]
      refine sink_take (i := 7) (oi := _) (v := ?_) rfl (by kernel_rfl) (by decide) (by kernel_rfl) (by kernel_rfl) (by kernel_rfl) (by kernel_rfl) (fun _ _ _ h => h) (by rfl) (fun wx hSw => ?_) hHeld ?_
      rotate_left
      · have e0 := (hSw.cell _).trans h0; have e1 := (hSw.cell _).trans h1; have e2 := (hSw.cell _).trans h2; have e3 := (hSw.cell _).trans h3; go_simp
        with_reducible rfl
      try simp only [Act.put, List.setIfInBounds_toArray, List.set_cons_zero, List.set_cons_succ]
      refine sink_take (i := 8) (oi := _) (v := ?_) rfl (by kernel_rfl) (by decide) (by kernel_rfl) (by kernel_rfl) (by kernel_rfl) (by kernel_rfl) (fun _ _ _ h => h) (by rfl) (fun wx hSw => ?_) hHeld ?_
      rotate_left
      · have e0 := (hSw.cell _).trans h0; have e1 := (hSw.cell _).trans h1; have e2 := (hSw.cell _).trans h2; have e3 := (hSw.cell _).trans h3; go_simp
        with_reducible rfl
      try simp only [Act.put, List.setIfInBounds_toArray, List.set_cons_zero, List.set_cons_succ]
      refine sink_take (i := 9) (oi := _) (v := ?_) rfl (by kernel_rfl) (by decide) (by kernel_rfl) (by kernel_rfl) (by kernel_rfl) (by kernel_rfl) (fun _ _ _ h => h) (by rfl) (fun wx hSw => ?_) hHeld ?_
      rotate_left
      · have e0 := (hSw.cell _).trans h0; have e1 := (hSw.cell _).trans h1; have e2 := (hSw.cell _).trans h2; have e3 := (hSw.cell _).trans h3; go_simp
        with_reducible rfl
      try simp only [Act.put, List.setIfInBounds_toArray, List.set_cons_zero, List.set_cons_succ]
      refine sink_take (i := 10) (oi := _) (v := ?_) rfl (by kernel_rfl) (by decide) (by kernel_rfl) (by kernel_rfl) (by kernel_rfl) (by kernel_rfl) (fun _ _ _ h => h) (by rfl) (fun wx hSw => ?_) hHeld ?_
      rotate_left
      · have e0 := (hSw.cell _).trans h0; have e1 := (hSw.cell _).trans h1; have e2 := (hSw.cell _).trans h2; have e3 := (hSw.cell _).trans h3; go_simp
        with_reducible rfl
      try simp only [Act.put, List.setIfInBounds_toArray, List.set_cons_zero, List.set_cons_succ]
      refine sink_take (i := 11) (oi := _) (v := ?_) rfl (by kernel_rfl) (by decide) (by kernel_rfl) (by kernel_rfl) (by kernel_rfl) (by kernel_rfl) (fun _ _ _ h => h) (by rfl) (fun wx hSw => ?_) hHeld ?_
      rotate_left
      · have e0 := (hSw.cell _).trans h0; have e1 := (hSw.cell _).trans h1; have e2 := (hSw.cell _).trans h2; have e3 := (hSw.cell _).trans h3; go_simp
        with_reducible rfl
      try simp only [Act.put, List.setIfInBounds_toArray, List.set_cons_zero, List.set_cons_succ]
      refine sink_take (i := 12) (oi := _) (v := ?_) rfl (by kernel_rfl) (by decide) (by kernel_rfl) (by kernel_rfl) (by kernel_rfl) (by kernel_rfl) (fun _ _ _ h => h) (by rfl) (fun wx hSw => ?_) hHeld ?_
      rotate_left
      · have e0 := (hSw.cell _).trans h0; have e1 := (hSw.cell _).trans h1; have e2 := (hSw.cell _).trans h2; have e3 := (hSw.cell _).trans h3; go_simp
        with_reducible rfl
      try simp only [Act.put, List.setIfInBounds_toArray, List.set_cons_zero, List.set_cons_succ]
      refine sink_take (i := 13) (oi := _) (v := ?_) rfl (by kernel_rfl) (by decide) (by kernel_rfl) (by kernel_rfl) (by kernel_rfl) (by kernel_rfl) (fun _ _ _ h => h) (by rfl) (fun wx hSw => ?_) hHeld ?_
      rotate_left
      · have e0 := (hSw.cell _).trans h0; have e1 := (hSw.cell _).trans h1; have e2 := (hSw.cell _).trans h2; have e3 := (hSw.cell _).trans h3; go_simp
        with_reducible rfl
      try simp only [Act.put, List.setIfInBounds_toArray, List.set_cons_zero, List.set_cons_succ]
      refine sink_take (i := 14) (oi := _) (v := ?_) rfl (by kernel_rfl) (by decide) (by kernel_rfl) (by kernel_rfl) (by kernel_rfl) (by kernel_rfl) (fun _ _ _ h => h) (by rfl) (fun wx hSw => ?_) hHeld ?_
      rotate_left
      · have e0 := (hSw.cell _).trans h0; have e1 := (hSw.cell _).trans h1; have e2 := (hSw.cell _).trans h2; have e3 := (hSw.cell _).trans h3; go_simp
        with_reducible rfl
      try simp only [Act.put, List.setIfInBounds_toArray, List.set_cons_zero, List.set_cons_succ]
      refine sink_take (i := 15) (oi := _) (v := ?_) rfl (by kernel_rfl) (by decide) (by kernel_rfl) (by kernel_rfl) (by kernel_rfl) (by kernel_rfl) (fun _ _ _ h => h) (by rfl) (fun wx hSw => ?_) hHeld ?_
      rotate_left
      · have e0 := (hSw.cell _).trans h0; have e1 := (hSw.cell _).trans h1; have e2 := (hSw.cell _).trans h2; have e3 := (hSw.cell _).trans h3; go_simp
        with_reducible rfl
      try simp only [Act.put, List.setIfInBounds_toArray, List.set_cons_zero, List.set_cons_succ]
      refine sink_take (i := 16) (oi := _) (v := ?_) rfl (by kernel_rfl) (by decide) (by kernel_rfl) (by kernel_rfl) (by kernel_rfl) (by kernel_rfl) (fun _ _ _ h => h) (by rfl) (fun wx hSw => ?_) hHeld ?_
      rotate_left
      · have e0 := (hSw.cell _).trans h0; have e1 := (hSw.cell _).trans h1; have e2 := (hSw.cell _).trans h2; have e3 := (hSw.cell _).trans h3; go_simp
        with_reducible rfl
      try simp only [Act.put, List.setIfInBounds_toArray, List.set_cons_zero, List.set_cons_succ]
      refine sink_take (i := 17) (oi := _) (v := ?_) rfl (by kernel_rfl) (by decide) (by kernel_rfl) (by kernel_rfl) (by kernel_rfl) (by kernel_rfl) (fun _ _ _ h => h) (by rfl) (fun wx hSw => ?_) hHeld ?_
      rotate_left
      · have e0 := (hSw.cell _).trans h0; have e1 := (hSw.cell _).trans h1; have e2 := (hSw.cell _).trans h2; have e3 := (hSw.cell _).trans h3; go_simp
        with_reducible rfl
      try simp only [Act.put, List.setIfInBounds_toArray, List.set_cons_zero, List.set_cons_succ]
      refine sink_take (i := 18) (oi := _) (v := ?_) rfl (by kernel_rfl) (by decide) (by kernel_rfl) (by kernel_rfl) (by kernel_rfl) (by kernel_rfl) (fun _ _ _ h => h) (by rfl) (fun wx hSw => ?_) hHeld ?_
      rotate_left
      · have e0 := (hSw.cell _).trans h0; have e1 := (hSw.cell _).trans h1; have e2 := (hSw.cell _).trans h2; have e3 := (hSw.cell _).trans h3; go_simp
        with_reducible rfl
      try simp only [Act.put, List.setIfInBounds_toArray, List.set_cons_zero, List.set_cons_succ]
      refine sink_take (i := 19) (oi := _) (v := ?_) rfl (by kernel_rfl) (by decide) (by kernel_rfl) (by kernel_rfl) (by kernel_rfl) (by kernel_rfl) (fun _ _ _ h => h) (by rfl) (fun wx hSw => ?_) hHeld ?_
      rotate_left
      · have e0 := (hSw.cell _).trans h0; have e1 := (hSw.cell _).trans h1; have e2 := (hSw.cell _).trans h2; have e3 := (hSw.cell _).trans h3; go_simp
        with_reducible rfl
      try simp only [Act.put, List.setIfInBounds_toArray, List.set_cons_zero, List.set_cons_succ]
      refine sink_take (i := 20) (oi := _) (v := ?_) rfl (by kernel_rfl) (by decide) (by kernel_rfl) (by kernel_rfl) (by kernel_rfl) (by kernel_rfl) (fun _ _ _ h => h) (by rfl) (fun wx hSw => ?_) hHeld ?_
      rotate_left
      · have e0 := (hSw.cell _).trans h0; have e1 := (hSw.cell _).trans h1; have e2 := (hSw.cell _).trans h2; have e3 := (hSw.cell _).trans h3; go_simp
        with_reducible rfl
      try simp only [Act.put, List.setIfInBounds_toArray, List.set_cons_zero, List.set_cons_succ]
      refine sink_take (i := 21) (oi := _) (v := ?_) rfl (by kernel_rfl) (by decide) (by kernel_rfl) (by kernel_rfl) (by kernel_rfl) (by kernel_rfl) (fun _ _ _ h => h) (by rfl) (fun wx hSw => ?_) hHeld ?_
      rotate_left
      · have e0 := (hSw.cell _).trans h0; have e1 := (hSw.cell _).trans h1; have e2 := (hSw.cell _).trans h2; have e3 := (hSw.cell _).trans h3; go_simp
        with_reducible rfl
      try simp only [Act.put, List.setIfInBounds_toArray, List.set_cons_zero, List.set_cons_succ]
      refine sink_take (i := 22) (oi := _) (v := ?_) rfl (by kernel_rfl) (by decide) (by kernel_rfl) (by kernel_rfl) (by kernel_rfl) (by kernel_rfl) (fun _ _ _ h => h) (by rfl) (fun wx hSw => ?_) hHeld ?_
      rotate_left
      · have e0 := (hSw.cell _).trans h0; have e1 := (hSw.cell _).trans h1; have e2 := (hSw.cell _).trans h2; have e3 := (hSw.cell _).trans h3; go_simp
        with_reducible rfl
      try simp only [Act.put, List.setIfInBounds_toArray, List.set_cons_zero, List.set_cons_succ]
      refine sink_take (i := 23) (oi := _) (v := ?_) rfl (by kernel_rfl) (by decide) (by kernel_rfl) (by kernel_rfl) (by kernel_rfl) (by kernel_rfl) (fun _ _ _ h => h) (by rfl) (fun wx hSw => ?_) hHeld ?_
      rotate_left
      · have e0 := (hSw.cell _).trans h0; have e1 := (hSw.cell _).trans h1; have e2 := (hSw.cell _).trans h2; have e3 := (hSw.cell _).trans h3; go_simp
        with_reducible rfl
      try simp only [Act.put, List.setIfInBounds_toArray, List.set_cons_zero, List.set_cons_succ]
      refine sink_take (i := 24) (oi := _) (v := ?_) rfl (by kernel_rfl) (by decide) (by kernel_rfl) (by kernel_rfl) (by kernel_rfl) (by kernel_rfl) (fun _ _ _ h => h) (by rfl) (fun wx hSw => ?_) hHeld ?_
      rotate_left
      · have e0 := (hSw.cell _).trans h0; have e1 := (hSw.cell _).trans h1; have e2 := (hSw.cell _).trans h2; have e3 := (hSw.cell _).trans h3; go_simp
        with_reducible rfl
      try simp only [Act.put, List.setIfInBounds_toArray, List.set_cons_zero, List.set_cons_succ]
      refine sink_take (i := 25) (oi := _) (v := ?_) rfl (by kernel_rfl) (by decide) (by kernel_rfl) (by kernel_rfl) (by kernel_rfl) (by kernel_rfl) (fun _ _ _ h => h) (by rfl) (fun wx hSw => ?_) hHeld ?_
      rotate_left
      · have e0 := (hSw.cell _).trans h0; have e1 := (hSw.cell _).trans h1; have e2 := (hSw.cell _).trans h2; have e3 := (hSw.cell _).trans h3; go_simp
        with_reducible rfl
      try simp only [Act.put, List.setIfInBounds_toArray, List.set_cons_zero, List.set_cons_succ]
      refine sink_take (i := 26) (oi := _) (v := ?_) rfl (by kernel_rfl) (by decide) (by kernel_rfl) (by kernel_rfl) (by kernel_rfl) (by kernel_rfl) (fun _ _ _ h => h) (by rfl) (fun wx hSw => ?_) hHeld ?_
      rotate_left
      · have e0 := (hSw.cell _).trans h0; have e1 := (hSw.cell _).trans h1; have e2 := (hSw.cell _).trans h2; have e3 := (hSw.cell _).trans h3; go_simp
        with_reducible rfl
      try simp only [Act.put, List.setIfInBounds_toArray, List.set_cons_zero, List.set_cons_succ]
      refine sink_take (i := 27) (oi := _) (v := ?_) rfl (by kernel_rfl) (by decide) (by kernel_rfl) (by kernel_rfl) (by kernel_rfl) (by kernel_rfl) (fun _ _ _ h => h) (by rfl) (fun wx hSw => ?_) hHeld ?_
      rotate_left
      · have e0 := (hSw.cell _).trans h0; have e1 := (hSw.cell _).trans h1; have e2 := (hSw.cell _).trans h2; have e3 := (hSw.cell _).trans h3; go_simp
        with_reducible rfl
      try simp only [Act.put, List.setIfInBounds_toArray, List.set_cons_zero, List.set_cons_succ]
      refine sink_take (i := 28) (oi := _) (v := ?_) rfl (by kernel_rfl) (by decide) (by kernel_rfl) (by kernel_rfl) (by kernel_rfl) (by kernel_rfl) (fun _ _ _ h => h) (by rfl) (fun wx hSw => ?_) hHeld ?_
      rotate_left
      · have e0 := (hSw.cell _).trans h0; have e1 := (hSw.cell _).trans h1; have e2 := (hSw.cell _).trans h2; have e3 := (hSw.cell _).trans h3; go_simp
        with_reducible rfl
      try simp only [Act.put, List.setIfInBounds_toArray, List.set_cons_zero, List.set_cons_succ]
      refine sink_take (i := 29) (oi := _) (v := ?_) rfl (by kernel_rfl) (by decide) (by kernel_rfl) (by kernel_rfl) (by kernel_rfl) (by kernel_rfl) (fun _ _ _ h => h) (by rfl) (fun wx hSw => ?_) hHeld ?_
      rotate_left
      · have e0 := (hSw.cell _).trans h0; have e1 := (hSw.cell _).trans h1; have e2 := (hSw.cell _).trans h2; have e3 := (hSw.cell _).trans h3; go_simp
        with_reducible rfl
      try simp only [Act.put, List.setIfInBounds_toArray, List.set_cons_zero, List.set_cons_succ]
      refine sink_take (i := 30) (oi := _) (v := ?_) rfl (by kernel_rfl) (by decide) (by kernel_rfl) (by kernel_rfl) (by kernel_rfl) (by kernel_rfl) (fun _ _ _ h => h) (by rfl) (fun wx hSw => ?_) hHeld ?_
      rotate_left
      · have e0 := (hSw.cell _).trans h0; have e1 := (hSw.cell _).trans h1; have e2 := (hSw.cell _).trans h2; have e3 := (hSw.cell _).trans h3; go_simp
        with_reducible rfl
      try simp only [Act.put, List.setIfInBounds_toArray, List.set_cons_zero, List.set_cons_succ]
      refine sink_take (i := 31) (oi := _) (v := ?_) rfl (by kernel_rfl) (by decide) (by kernel_rfl) (by kernel_rfl) (by kernel_rfl) (by kernel_rfl) (fun _ _ _ h => h) (by rfl) (fun wx hSw => ?_) hHeld ?_
      rotate_left
      · have e0 := (hSw.cell _).trans h0; have e1 := (hSw.cell _).trans h1; have e2 := (hSw.cell _).trans h2; have e3 := (hSw.cell _).trans h3; go_simp
        with_reducible rfl
      try simp only [Act.put, List.setIfInBounds_toArray, List.set_cons_zero, List.set_cons_succ]
      refine sink_take (i := 32) (oi := _) (v := ?_) rfl (by kernel_rfl) (by decide) (by kernel_rfl) (by kernel_rfl) (by kernel_rfl) (by kernel_rfl) (fun _ _ _ h => h) (by rfl) (fun wx hSw => ?_) hHeld ?_
      rotate_left
      · have e0 := (hSw.cell _).trans h0; have e1 := (hSw.cell _).trans h1; have e2 := (hSw.cell _).trans h2; have e3 := (hSw.cell _).trans h3; go_simp
        with_reducible rfl
      try simp only [Act.put, List.setIfInBounds_toArray, List.set_cons_zero, List.set_cons_succ]
      refine sink_take (i := 33) (oi := _) (v := ?_) rfl (by kernel_rfl) (by decide) (by kernel_rfl) (by kernel_rfl) (by kernel_rfl) (by kernel_rfl) (fun _ _ _ h => h) (by rfl) (fun wx hSw => ?_) hHeld ?_
      rotate_left
      · have e0 := (hSw.cell _).trans h0; have e1 := (hSw.cell _).trans h1; have e2 := (hSw.cell _).trans h2; have e3 := (hSw.cell _).trans h3; go_simp
        with_reducible rfl
      try simp only [Act.put, List.setIfInBounds_toArray, List.set_cons_zero, List.set_cons_succ]
      refine sink_take (i := 34) (oi := _) (v := ?_) rfl (by kernel_rfl) (by decide) (by kernel_rfl) (by kernel_rfl) (by kernel_rfl) (by kernel_rfl) (fun _ _ _ h => h) (by rfl) (fun wx hSw => ?_) hHeld ?_
      rotate_left
      · have e0 := (hSw.cell _).trans h0; have e1 := (hSw.cell _).trans h1; have e2 := (hSw.cell _).trans h2; have e3 := (hSw.cell _).trans h3; go_simp
        with_reducible rfl
      try simp only [Act.put, List.setIfInBounds_toArray, List.set_cons_zero, List.set_cons_succ]
      have f2 := (hHeld.blk R.wv).frozen k
      have g2 := (hHeld.cell _).trans g0
      refine sink_last (by kernel_rfl) rfl (by kernel_rfl) (by kernel_rfl) (fun K hK => ?_)
      go_simp
      refine hK.out _ _ ?_
      clear hK K
      try simp only [Act.put, List.setIfInBounds_toArray, List.set_cons_zero, List.set_cons_succ]
      go_wp2_with fail
      go_roundw
      case rel =>
        have hs2 := R.drew.set_ k (.int .u32 ((nextW m (sch m k)).toNat : Int))
        rw [schC_set _ _ (by omega), NX.out] at hs2
        exact ⟨k + 1, by omega, by go_num, RB.val (wr := wr.drew) hs2 (bew_val p0 p1 p2 p3)⟩
      case measure => simp [intOf]; omega
    · have R16 : RB w s (schC m 16) wr := by rw [show 16 = k by omega]; exact R
      clear hr R
      go_wp2_with fail
      clear hlt hk
      go_loopw [7] (fun i wr => ∃ k : Nat, 16 ≤ k ∧ k ≤ 64 ∧ i = .int .i64 k ∧ RB w s (schC m k) wr) (fun i _ => 64 - (intOf i).toNat)
      case atStart => exact ⟨16, by omega, by omega, rfl, R16⟩
      case round =>
        clear R16
        obtain ⟨k, h16, hk, rfl, R⟩ := hrel
        by_cases hlt : k < 64
        · obtain ⟨r15, E15⟩ : ∃ q, q = k - 15 := ⟨_, rfl⟩
          obtain ⟨r2, E2⟩ : ∃ q, q = k - 2 := ⟨_, rfl⟩
          obtain ⟨r16, E16⟩ : ∃ q, q = k - 16 := ⟨_, rfl⟩
          obtain ⟨r7, E7⟩ : ∃ q, q = k - 7 := ⟨_, rfl⟩
          have NX := hide (show nextW m (sch m k) = (sch m k).getD r16 0 + (sch m k).getD r7 0 + sg0 ((sch m k).getD r15 0) + sg1 ((sch m k).getD r2 0) by unfold nextW; rw [sch_length, if_neg (by omega), E16, E7, E15, E2])
          have g15 : wr.cell? ⟨w.heap.size + 1 + 1, r15, none⟩ = _ := (R.wv.cell r15).trans (schC_at m k r15 (by omega))
          have g2 : wr.cell? ⟨w.heap.size + 1 + 1, r2, none⟩ = _ := (R.wv.cell r2).trans (schC_at m k r2 (by omega))
          have g16 : wr.cell? ⟨w.heap.size + 1 + 1, r16, none⟩ = _ := (R.wv.cell r16).trans (schC_at m k r16 (by omega))
          have g7 : wr.cell? ⟨w.heap.size + 1 + 1, r7, none⟩ = _ := (R.wv.cell r7).trans (schC_at m k r7 (by omega))
          generalize (sch m k).getD r15 0 = x15 at *
          generalize (sch m k).getD r2 0 = x2 at *
          generalize (sch m k).getD r16 0 = x16 at *
          generalize (sch m k).getD r7 0 = x7 at *
          have g0 : wr.cell? ⟨w.heap.size + 1 + 1, k, none⟩ = some (.int .u32 0) := by rw [R.wv.cell, schC_new m k hlt]
          have f0 := R.wv.frozen k
          have R15 : (k : Int) - 15 = (r15 : Int) := by omega
          have R2 : (k : Int) - 2 = (r2 : Int) := by omega
          have R16 : (k : Int) - 16 = (r16 : Int) := by omega
          have R7 : (k : Int) - 7 = (r7 : Int) := by omega
          have S16 : IntKind.i64.wrap (r16 : Int) = (r16 : Int) := by rw [IntKind.wrap_i64]; omega
          have S7 : IntKind.i64.wrap (r7 : Int) = (r7 : Int) := by rw [IntKind.wrap_i64]; omega
          have L15 : (r15 : Int) < 64 := by omega
          have L2 : (r2 : Int) < 64 := by omega
          have L16 : (r16 : Int) < 64 := by omega
          have L7 : (r7 : Int) < 64 := by omega
          clear E15 E2 E16 E7
          go_wp2_with fail
          go_quiet (fail)
          go_wp2_with fail
          refine (rturned_any x15 7 (by decide) (by decide) _).mono ?_
          rintro e w5 ⟨rfl, rfl⟩
          go_wp2_with fail
          refine (rturned_any x15 18 (by decide) (by decide) _).mono ?_
          rintro e w5 ⟨rfl, rfl⟩
          go_wp2_with fail
          refine (rturned_any x2 17 (by decide) (by decide) _).mono ?_
          rintro e w5 ⟨rfl, rfl⟩
          go_wp2_with fail
          refine (rturned_any x2 19 (by decide) (by decide) _).mono ?_
          rintro e w5 ⟨rfl, rfl⟩
          go_wp2_with fail
          refine wp_region_sink 15 (fun wx => Drew wr wx) (by kernel_rfl) (Drew.one ((Drew.refl _).more nq)) (fun hHeld => ?_)
          refine sink_take (i := 0) (oi := _) (v := ?_) rfl (by kernel_rfl) (by decide) (by kernel_rfl) (by kernel_rfl) (by kernel_rfl) (by kernel_rfl) (fun _ _ _ h => h) (by rfl) (fun wx hSw => ?_) hHeld ?_
          rotate_left
          · have e16 := (hSw.cell _).trans g16; have e7 := (hSw.cell _).trans g7; go_simp
            with_reducible rfl
          try simp only [Act.put, List.setIfInBounds_toArray, List.set_cons_zero, List.set_cons_succ]
          refine sink_take (i := 1) (oi := _) (v := ?_) rfl (by kernel_rfl) (by decide) (by kernel_rfl) (by kernel_rfl) (by kernel_rfl) (by kernel_rfl) (fun _ _ _ h => h) (by rfl) (fun wx hSw => ?_) hHeld ?_
          rotate_left
          · have e16 := (hSw.cell _).trans g16; have e7 := (hSw.cell _).trans g7; go_simp
            with_reducible rfl
          try simp only [Act.put, List.setIfInBounds_toArray, List.set_cons_zero, List.set_cons_succ]
          refine sink_take (i := 2) (oi := _) (v := ?_) rfl (by kernel_rfl) (by decide) (by kernel_rfl) (by kernel_rfl) (by kernel_rfl) (by kernel_rfl) (fun _ _ _ h => h) (by rfl) (fun wx hSw => ?_) hHeld ?_
          rotate_left
          · have e16 := (hSw.cell _).trans g16; have e7 := (hSw.cell _).trans g7; go_simp
            with_reducible rfl
          try simp only [Act.put, List.setIfInBounds_toArray, List.set_cons_zero, List.set_cons_succ]
          refine sink_take (i := 3) (oi := _) (v := ?_) rfl (by kernel_rfl) (by decide) (by kernel_rfl) (by kernel_rfl) (by kernel_rfl) (by kernel_rfl) (fun _ _ _ h => h) (by rfl) (fun wx hSw => ?_) hHeld ?_
          rotate_left
          · have e16 := (hSw.cell _).trans g16; have e7 := (hSw.cell _).trans g7; go_simp
            with_reducible rfl
          try simp only [Act.put, List.setIfInBounds_toArray, List.set_cons_zero, List.set_cons_succ]
          refine sink_take (i := 4) (oi := _) (v := ?_) rfl (by kernel_rfl) (by decide) (by kernel_rfl) (by kernel_rfl) (by kernel_rfl) (by kernel_rfl) (fun _ _ _ h => h) (by rfl) (fun wx hSw => ?_) hHeld ?_
          rotate_left
          · have e16 := (hSw.cell _).trans g16; have e7 := (hSw.cell _).trans g7; go_simp
            with_reducible rfl
          try simp only [Act.put, List.setIfInBounds_toArray, List.set_cons_zero, List.set_cons_succ]
          refine sink_take (i := 5) (oi := _) (v := ?_) rfl (by kernel_rfl) (by decide) (by kernel_rfl) (by kernel_rfl) (by kernel_rfl) (by kernel_rfl) (fun _ _ _ h => h) (by rfl) (fun wx hSw => ?_) hHeld ?_
          rotate_left
          · have e16 := (hSw.cell _).trans g16; have e7 := (hSw.cell _).trans g7; go_simp
            with_reducible rfl
          try simp only [Act.put, List.setIfInBounds_toArray, List.set_cons_zero, List.set_cons_succ]
          refine sink_take (i := 6) (oi := _) (v := ?_) rfl (by kernel_rfl) (by decide) (by kernel_rfl) (by kernel_rfl) (by kernel_rfl) (by kernel_rfl) (fun _ _ _ h => h) (by rfl) (fun wx hSw => ?_) hHeld ?_
          rotate_left
          · have e16 := (hSw.cell _).trans g16; have e7 := (hSw.cell _).trans g7; go_simp
            with_reducible rfl
          try simp only [Act.put, List.setIfInBounds_toArray, List.set_cons_zero, List.set_cons_succ]
          refine sink_take (i := 7) (oi := _) (v := ?_) rfl (by kernel_rfl) (by decide) (by kernel_rfl) (by kernel_rfl) (by kernel_rfl) (by kernel_rfl) (fun _ _ _ h => h) (by rfl) (fun wx hSw => ?_) hHeld ?_
          rotate_left
          · have e16 := (hSw.cell _).trans g16; have e7 := (hSw.cell _).trans g7; go_simp
            with_reducible rfl
          try simp only [Act.put, List.setIfInBounds_toArray, List.set_cons_zero, List.set_cons_succ]
          refine sink_take (i := 8) (oi := _) (v := ?_) rfl (by kernel_rfl) (by decide) (by kernel_rfl) (by kernel_rfl) (by kernel_rfl) (by kernel_rfl) (fun _ _ _ h => h) (by rfl) (fun wx hSw => ?_) hHeld ?_
          rotate_left
          · have e16 := (hSw.cell _).trans g16; have e7 := (hSw.cell _).trans g7; go_simp
            with_reducible rfl
          try simp only [Act.put, List.setIfInBounds_toArray, List.set_cons_zero, List.set_cons_succ]
          refine sink_take (i := 9) (oi := _) (v := ?_) rfl (by kernel_rfl) (by decide) (by kernel_rfl) (by kernel_rfl) (by kernel_rfl) (by kernel_rfl) (fun _ _ _ h => h) (by rfl) (fun wx hSw => ?_) hHeld ?_
          rotate_left
          · have e16 := (hSw.cell _).trans g16; have e7 := (hSw.cell _).trans g7; go_simp
            with_reducible rfl
          try simp only [Act.put, List.setIfInBounds_toArray, List.set_cons_zero, List.set_cons_succ]
          refine sink_take (i := 10) (oi := _) (v := ?_) rfl (by kernel_rfl) (by decide) (by kernel_rfl) (by kernel_rfl) (by kernel_rfl) (by kernel_rfl) (fun _ _ _ h => h) (by rfl) (fun wx hSw => ?_) hHeld ?_
          rotate_left
          · have e16 := (hSw.cell _).trans g16; have e7 := (hSw.cell _).trans g7; go_simp
            with_reducible rfl
          try simp only [Act.put, List.setIfInBounds_toArray, List.set_cons_zero, List.set_cons_succ]
          refine sink_take (i := 11) (oi := _) (v := ?_) rfl (by kernel_rfl) (by decide) (by kernel_rfl) (by kernel_rfl) (by kernel_rfl) (by kernel_rfl) (fun _ _ _ h => h) (by rfl) (fun wx hSw => ?_) hHeld ?_
          rotate_left
          · have e16 := (hSw.cell _).trans g16; have e7 := (hSw.cell _).trans g7; go_simp
            with_reducible rfl
          try simp only [Act.put, List.setIfInBounds_toArray, List.set_cons_zero, List.set_cons_succ]
          refine sink_take (i := 12) (oi := _) (v := ?_) rfl (by kernel_rfl) (by decide) (by kernel_rfl) (by kernel_rfl) (by kernel_rfl) (by kernel_rfl) (fun _ _ _ h => h) (by rfl) (fun wx hSw => ?_) hHeld ?_
          rotate_left
          · have e16 := (hSw.cell _).trans g16; have e7 := (hSw.cell _).trans g7; go_simp
            with_reducible rfl
          try simp only [Act.put, List.setIfInBounds_toArray, List.set_cons_zero, List.set_cons_succ]
          refine sink_take (i := 13) (oi := _) (v := ?_) rfl (by kernel_rfl) (by decide) (by kernel_rfl) (by kernel_rfl) (by kernel_rfl) (by kernel_rfl) (fun _ _ _ h => h) (by rfl) (fun wx hSw => ?_) hHeld ?_
          rotate_left
          · have e16 := (hSw.cell _).trans g16; have e7 := (hSw.cell _).trans g7; go_simp
            with_reducible rfl
          try simp only [Act.put, List.setIfInBounds_toArray, List.set_cons_zero, List.set_cons_succ]
          refine sink_take (i := 14) (oi := _) (v := ?_) rfl (by kernel_rfl) (by decide) (by kernel_rfl) (by kernel_rfl) (by kernel_rfl) (by kernel_rfl) (fun _ _ _ h => h) (by rfl) (fun wx hSw => ?_) hHeld ?_
          rotate_left
          · have e16 := (hSw.cell _).trans g16; have e7 := (hSw.cell _).trans g7; go_simp
            with_reducible rfl
          try simp only [Act.put, List.setIfInBounds_toArray, List.set_cons_zero, List.set_cons_succ]
          have f2 := (hHeld.blk R.wv).frozen k
          have g2 := (hHeld.cell _).trans g0
          refine sink_last (by kernel_rfl) rfl (by kernel_rfl) (by kernel_rfl) (fun K hK => ?_)
          go_simp
          refine hK.out _ _ ?_
          clear hK K
          try simp only [Act.put, List.setIfInBounds_toArray, List.set_cons_zero, List.set_cons_succ]
          go_wp2_with fail
          go_roundw
          case rel =>
            have hs2 := (R.drewN (nq + 1)).set_ k (.int .u32 ((nextW m (sch m k)).toNat : Int))
            rw [schC_set _ _ hlt, NX.out] at hs2
            exact ⟨k + 1, by omega, by omega, by go_num, RB.val (wr := wr.drewN (nq + 1)) hs2 (rnext_val x16 x7 x15 x2)⟩
          case measure => simp [intOf]; omega
        · have R64 : RB w s (schC m 64) wr := by rw [show 64 = k by omega]; exact R
          clear R
          have hR64 := hide R64
          clear R64
          go_wp2_with (first | (go_at_call 27; refine (rounds_any _).mono ?_; rintro e w5 ⟨rfl, b5⟩) | (with_reducible refine stop_store64 ?_))
          unfold Stopped
          have R5 := hR64.out.chg (Chg.of_below (K := fun b => wr.heap.size ≤ b) b5 fun b _ h => h) fun b hb => by have := hR64.out.wv.lt; omega
          clear hR64 b5
          have n5 := R5.wv.lt
          refine wpList_store_row rfl _ _ _ rfl w5.heap.size rksA (by rfl) (by rfl) _ _ (Blk.new w5 _ _) (by rw [rksA_size]; kernel_rfl) (by rw [rksA_size]; kernel_rfl) rksA_one ?_
          rw [World.setRow_alloc_new]
          have R6 : RB w s (schC m 64) (w5.alloc (.cells rksA 64)) := R5.chg ((Chg.refl (fun _ => False) w5).alloc _) fun _ h => h.elim
          have K6 := Blk.new w5 64 rksA
          have n6 := K6.lt
          clear R5
          generalize w5.alloc (.cells rksA 64) = w6 at *
          generalize w5.heap.size = kb at *
          go_wp2_with (with_reducible refine stop_load8 ?_)
          unfold Stopped
          refine wpList_load_row rfl _ _ rfl w.heap.size (by rfl) _ _ _ _ R6.h Tryd.underlying58 rfl (by kernel_rfl) ?_
          go_wp2_with (with_reducible refine stop_store8 ?_)
          unfold Stopped
          refine wpList_store_row rfl _ _ _ rfl w6.heap.size s.cs (by rfl) (by rfl) _ _ (Blk.new w6 _ _) (by kernel_rfl) (by kernel_rfl) (cs_one _) ?_
          rw [World.setRow_alloc_new]
          have R7 : RB w s (schC m 64) (w6.alloc (.cells s.cs 58)) := R6.chg ((Chg.refl (fun _ => False) w6).alloc _) fun _ h => h.elim
          have V7 := Blk.new w6 58 s.cs
          have K7 := K6.alloc (.cells s.cs 58)
          have n7 : w6.heap.size < (w6.alloc (.cells s.cs 58)).heap.size := V7.lt
          clear R6 K6
          generalize w6.alloc (.cells s.cs 58) = w7 at *
          generalize w6.heap.size = vb at *
          have ZK : (rnds (sch m 64) s 0).cs = s.cs := rfl
          rw [← ZK] at V7
          clear ZK
          go_wp2_with fail
          clear hlt hk h16
          go_loopw [14] (fun i wr => ∃ k : Nat, k ≤ 64 ∧ i = .int .i64 k ∧ RB w s (schC m 64) wr ∧ Blk wr kb 64 rksA ∧ Blk wr vb 58 (rnds (sch m 64) s k).cs) (fun i _ => 64 - (intOf i).toNat)
          case atStart => exact ⟨0, by omega, rfl, R7, K7, V7⟩
          case round =>
            clear R7 K7 V7
            obtain ⟨k, hk, rfl, R, K, V⟩ := hrel
            by_cases hlt : k < 64
            · have ck : wr.cell? ⟨kb, k, none⟩ = some (.int .u32 ((rks.getD k 0).toNat : Int)) := (K.cell k).trans (rksA_at k hlt)
              have cw : wr.cell? ⟨w.heap.size + 1 + 1, k, none⟩ = some (.int .u32 (((sch m 64).getD k 0).toNat : Int)) := (R.wv.cell k).trans (schC_at m 64 k hlt)
              have NR := hide (show rnds (sch m 64) s (k + 1) = rnd (rnds (sch m 64) s k) (rks.getD k 0) ((sch m 64).getD k 0) from rfl)
              generalize rks.getD k 0 = kk at *
              generalize (sch m 64).getD k 0 = ww at *
              generalize rnds (sch m 64) s k = v at *
              have s0 : wr.cell? ⟨vb, 0, none⟩ = some (.int .u32 (v.a.toNat : Int)) := V.cell 0
              have s1 : wr.cell? ⟨vb, 1, none⟩ = some (.int .u32 (v.b.toNat : Int)) := V.cell 1
              have s2 : wr.cell? ⟨vb, 2, none⟩ = some (.int .u32 (v.c.toNat : Int)) := V.cell 2
              have s3 : wr.cell? ⟨vb, 3, none⟩ = some (.int .u32 (v.d.toNat : Int)) := V.cell 3
              have s4 : wr.cell? ⟨vb, 4, none⟩ = some (.int .u32 (v.e.toNat : Int)) := V.cell 4
              have s5 : wr.cell? ⟨vb, 5, none⟩ = some (.int .u32 (v.f.toNat : Int)) := V.cell 5
              have s6 : wr.cell? ⟨vb, 6, none⟩ = some (.int .u32 (v.g.toNat : Int)) := V.cell 6
              have s7 : wr.cell? ⟨vb, 7, none⟩ = some (.int .u32 (v.h.toNat : Int)) := V.cell 7
              have l64 : (k : Int) < 64 := by omega
              go_wp2_with fail
              go_quiet (fail)
              clear s0 s1 s2 s3 s4 s5 s6 s7
              go_wp2_with fail
              have R3 := R.drewN nq
              have K3 := K.drewN nq
              have V3 := V.drewN nq
              have ck3 : (wr.drewN nq).cell? ⟨kb, k, none⟩ = _ := ck
              have cw3 : (wr.drewN nq).cell? ⟨w.heap.size + 1 + 1, k, none⟩ = _ := cw
              clear ck cw R K V
              generalize wr.drewN nq = w8 at *
              go_quiet ((go_at_call 26; first | with_reducible exact quiet_left (rt6 v.e _) | with_reducible exact quiet_left (rt11 v.e _) | with_reducible exact quiet_left (rt25 v.e _)))
              simp only [u32_sgn, u32_xor, u32_and, u32_not, t_mod, ch_eq]
              rw [show v.h + (rot v.e 6 ^^^ rot v.e 11 ^^^ rot v.e 25) + (v.g ^^^ v.e &&& (v.f ^^^ v.g)) + kk + ww = rndT v kk ww from rfl]
              generalize hT : rndT v kk ww = T
              have HT := hide hT
              clear hT
              go_wp2_with fail
              refine (rt2 v.a _).mono ?_
              rintro e w9 ⟨rfl, rfl⟩
              go_wp2_with fail
              refine (rturned_any v.a 13 (by decide) (by decide) _).mono ?_
              rintro e w9 ⟨rfl, rfl⟩
              go_wp2_with fail
              refine (rturned_any v.a 22 (by decide) (by decide) _).mono ?_
              rintro e w9 ⟨rfl, rfl⟩
              go_upto_region 21 with fail
              simp only [u32_xor, u32_and, m32_add, maj_eq]
              rw [show (rot v.a 2 ^^^ rot v.a 13 ^^^ rot v.a 22) + (v.a &&& v.b ||| v.c &&& (v.a ||| v.b)) = rndU v from rfl]
              generalize hU : rndU v = U
              have HU := hide hU
              clear hU
              go_wp2_with (with_reducible refine stop_store8 ?_)
              unfold Stopped
              simp only [m32_add]
              have R3 := R3.drewN nq
              have K3 := K3.drewN nq
              have V3 := V3.drewN nq
              generalize w8.drewN nq = w8 at *
              have EC : Wds.cs ⟨T + U, v.a, v.b, v.c, v.d + T, v.e, v.f, v.g⟩ = (rnds (sch m 64) s (k + 1)).cs := by rw [NR.out, rnd, HT.out, HU.out]
              refine wpList_store_row rfl _ _ _ rfl vb (Wds.cs ⟨T + U, v.a, v.b, v.c, v.d + T, v.e, v.f, v.g⟩) (by rfl) (by rfl) _ _ V3 (by kernel_rfl) rfl (cs_one _) ?_
              rw [EC]
              have R4 : RB w s (schC m 64) (w8.setRow vb (rnds (sch m 64) s (k + 1)).cs) := R3.chg (Chg.setRow w8 vb _) fun b hb => by omega
              have K4 := (Chg.setRow w8 vb (rnds (sch m 64) s (k + 1)).cs).blk K3 (by omega)
              have V4 := blk_setRow V3 (rnds (sch m 64) s (k + 1)).cs
              clear EC R3 K3 V3
              generalize w8.setRow vb (rnds (sch m 64) s (k + 1)).cs = w9 at *
              go_wp2_with fail
              go_roundw
              case rel => exact ⟨k + 1, by omega, by go_num, R4, K4, V4⟩
              case measure => simp [intOf]; omega
            · have V64 : Blk wr vb 58 (rnds (sch m 64) s 64).cs := by
                have e : k = 64 := by omega
                rw [e] at V
                exact V
              have Z0 : addC s (rnds (sch m 64) s 64) 0 = s.cs := addC_zero _ _
              have H0 := R.h
              have HC := hide (show addC s (rnds (sch m 64) s 64) 8 = (comp s m).cs from rfl)
              have r0 := R.r
              have bel := R.bel
              clear V R K
              rw [← Z0] at H0
              clear Z0
              generalize rnds (sch m 64) s 64 = v at *
              go_wp2_with fail
              clear hlt hk
              go_loopw [25] (fun i wq => ∃ k : Nat, k ≤ 8 ∧ i = .int .i64 k ∧ Blk wq w.heap.size 58 (addC s v k) ∧ Blk wq (w.heap.size + 1) 58 w0.cs ∧ Blk wq vb 58 v.cs ∧ Below w.heap.size w wq) (fun i _ => 8 - (intOf i).toNat)
              case atStart => exact ⟨0, by omega, rfl, H0, r0, V64, bel⟩
              case round =>
                clear H0 r0 V64 bel
                obtain ⟨k, hk, rfl, S, r0, V, bel⟩ := hrel
                by_cases hlt : k < 8
                · have c0 : wr.cell? ⟨w.heap.size, k, none⟩ = _ := (S.cell k).trans (addC_at s v k hlt)
                  have c1 : wr.cell? ⟨vb, k, none⟩ = _ := (V.cell k).trans (v.cs_at k hlt)
                  have f0 := S.frozen k
                  have HS := hide (addC_set s v k hlt)
                  generalize s.ws.getD k 0 = x at *
                  generalize v.ws.getD k 0 = y at *
                  have l8 : (k : Int) < 8 := by omega
                  go_wp2_with fail
                  refine wp_region_sink 9 (fun wx => Drew wr wx) (by kernel_rfl) (Drew.one (Drew.refl _)) (fun hHeld => ?_)
                  refine sink_take (i := 0) (oi := _) (v := ?_) rfl (by kernel_rfl) (by decide) (by kernel_rfl) (by kernel_rfl) (by kernel_rfl) (by kernel_rfl) (fun _ _ _ h => h) (by rfl) (fun wx hSw => ?_) hHeld ?_
                  rotate_left
                  · have e0 := (hSw.cell _).trans c0; have e1 := (hSw.cell _).trans c1; go_simp
                    with_reducible rfl
                  try simp only [Act.put, List.setIfInBounds_toArray, List.set_cons_zero, List.set_cons_succ]
                  refine sink_take (i := 1) (oi := _) (v := ?_) rfl (by kernel_rfl) (by decide) (by kernel_rfl) (by kernel_rfl) (by kernel_rfl) (by kernel_rfl) (fun _ _ _ h => h) (by rfl) (fun wx hSw => ?_) hHeld ?_
                  rotate_left
                  · have e0 := (hSw.cell _).trans c0; have e1 := (hSw.cell _).trans c1; go_simp
                    with_reducible rfl
                  try simp only [Act.put, List.setIfInBounds_toArray, List.set_cons_zero, List.set_cons_succ]
                  refine sink_take (i := 2) (oi := _) (v := ?_) rfl (by kernel_rfl) (by decide) (by kernel_rfl) (by kernel_rfl) (by kernel_rfl) (by kernel_rfl) (fun _ _ _ h => h) (by rfl) (fun wx hSw => ?_) hHeld ?_
                  rotate_left
                  · have e0 := (hSw.cell _).trans c0; have e1 := (hSw.cell _).trans c1; go_simp
                    with_reducible rfl
                  try simp only [Act.put, List.setIfInBounds_toArray, List.set_cons_zero, List.set_cons_succ]
                  refine sink_take (i := 3) (oi := _) (v := ?_) rfl (by kernel_rfl) (by decide) (by kernel_rfl) (by kernel_rfl) (by kernel_rfl) (by kernel_rfl) (fun _ _ _ h => h) (by rfl) (fun wx hSw => ?_) hHeld ?_
                  rotate_left
                  · have e0 := (hSw.cell _).trans c0; have e1 := (hSw.cell _).trans c1; go_simp
                    with_reducible rfl
                  try simp only [Act.put, List.setIfInBounds_toArray, List.set_cons_zero, List.set_cons_succ]
                  refine sink_take (i := 4) (oi := _) (v := ?_) rfl (by kernel_rfl) (by decide) (by kernel_rfl) (by kernel_rfl) (by kernel_rfl) (by kernel_rfl) (fun _ _ _ h => h) (by rfl) (fun wx hSw => ?_) hHeld ?_
                  rotate_left
                  · have e0 := (hSw.cell _).trans c0; have e1 := (hSw.cell _).trans c1; go_simp
                    with_reducible rfl
                  try simp only [Act.put, List.setIfInBounds_toArray, List.set_cons_zero, List.set_cons_succ]
                  refine sink_take (i := 5) (oi := _) (v := ?_) rfl (by kernel_rfl) (by decide) (by kernel_rfl) (by kernel_rfl) (by kernel_rfl) (by kernel_rfl) (fun _ _ _ h => h) (by rfl) (fun wx hSw => ?_) hHeld ?_
                  rotate_left
                  · have e0 := (hSw.cell _).trans c0; have e1 := (hSw.cell _).trans c1; go_simp
                    with_reducible rfl
                  try simp only [Act.put, List.setIfInBounds_toArray, List.set_cons_zero, List.set_cons_succ]
                  refine sink_take (i := 6) (oi := _) (v := ?_) rfl (by kernel_rfl) (by decide) (by kernel_rfl) (by kernel_rfl) (by kernel_rfl) (by kernel_rfl) (fun _ _ _ h => h) (by rfl) (fun wx hSw => ?_) hHeld ?_
                  rotate_left
                  · have e0 := (hSw.cell _).trans c0; have e1 := (hSw.cell _).trans c1; go_simp
                    with_reducible rfl
                  try simp only [Act.put, List.setIfInBounds_toArray, List.set_cons_zero, List.set_cons_succ]
                  refine sink_take (i := 7) (oi := _) (v := ?_) rfl (by kernel_rfl) (by decide) (by kernel_rfl) (by kernel_rfl) (by kernel_rfl) (by kernel_rfl) (fun _ _ _ h => h) (by rfl) (fun wx hSw => ?_) hHeld ?_
                  rotate_left
                  · have e0 := (hSw.cell _).trans c0; have e1 := (hSw.cell _).trans c1; go_simp
                    with_reducible rfl
                  try simp only [Act.put, List.setIfInBounds_toArray, List.set_cons_zero, List.set_cons_succ]
                  refine sink_take (i := 8) (oi := _) (v := ?_) rfl (by kernel_rfl) (by decide) (by kernel_rfl) (by kernel_rfl) (by kernel_rfl) (by kernel_rfl) (fun _ _ _ h => h) (by rfl) (fun wx hSw => ?_) hHeld ?_
                  rotate_left
                  · have e0 := (hSw.cell _).trans c0; have e1 := (hSw.cell _).trans c1; go_simp
                    with_reducible rfl
                  try simp only [Act.put, List.setIfInBounds_toArray, List.set_cons_zero, List.set_cons_succ]
                  have f2 := (hHeld.blk S).frozen k
                  have g2 := (hHeld.cell _).trans c0
                  refine sink_last (by kernel_rfl) rfl (by kernel_rfl) (by kernel_rfl) (fun K hK => ?_)
                  go_simp
                  refine hK.out _ _ ?_
                  clear hK K
                  try simp only [Act.put, List.setIfInBounds_toArray, List.set_cons_zero, List.set_cons_succ]
                  go_wp2_with fail
                  go_roundw
                  case rel =>
                    have hs2 := (S.set_ k (.int .u32 ((x + y).toNat : Int))).drew
                    rw [HS.out] at hs2
                    exact ⟨k + 1, by omega, by go_num, blk_val (W := wr.drew) hs2 (m32_add x y), r0.drew.far (by simp) _, V.drew.far (by simp; omega) _, (bel.setCell (p := ⟨w.heap.size, k, none⟩) (Nat.le_refl _) _).drew⟩
                  case measure => simp [intOf]; omega
                · have S8 : Blk wr w.heap.size 58 (comp s m).cs := by
                    have e : k = 8 := by omega
                    rw [e] at S
                    rw [← HC.out]
                    exact S
                  go_wp2_with (with_reducible refine stop_load8 ?_)
                  unfold Stopped
                  refine wpList_load_row rfl _ _ rfl w.heap.size (by rfl) _ _ _ _ S8 Tryd.underlying58 rfl (by rw [Wds.cs_size]; kernel_rfl) ?_
                  refine wpList_store_row rfl _ _ _ rfl (w.heap.size + 1) (comp s m).cs (by rfl) (by rfl) _ _ r0 (by rw [Wds.cs_size]; kernel_rfl) (by rw [Wds.cs_size, Wds.cs_size]) (cs_one _) ?_
                  have r9 := blk_setRow r0 (comp s m).cs
                  have b9 := bel.trans ((Chg.setRow wr (w.heap.size + 1) (comp s m).cs).below bel.size fun b hb => by omega)
                  generalize wr.setRow (w.heap.size + 1) (comp s m).cs = w9 at *
                  go_wp2
                  refine bodyPost_ret (v := .agg (comp s m).cs) ?_ rfl ⟨rfl, b9⟩
                  exact results_cell_row rfl _ _ (w.heap.size + 1) _ _ _ _ rfl r9 Tryd.underlying58 rfl (by rw [Wds.cs_size]; kernel_rfl)
end Go.Proofs.YtdkcjmpikmnedaaDoor
