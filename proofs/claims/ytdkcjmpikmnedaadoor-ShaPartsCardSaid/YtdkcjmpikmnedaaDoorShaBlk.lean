/- The walk through sha's block. -/
import Derived.Test.YtdkcjmpikmnedaaDoorSha
import Derived.Deep.MidRow
import Derived.Deep.RegionHeld3
import Derived.Deep.DrawnRows
import Derived.Deep.CutRange
namespace Go.Proofs.YtdkcjmpikmnedaaDoor
open Go.RowKit
set_option linter.unusedSimpArgs false

theorem Wds.cs_at (s : Wds) (k : Nat) (h : k < 8) : s.cs[k]? = some (.int .u32 ((s.ws.getD k 0).toNat : Int)) :=
  match k, h with
  | 0, _ => rfl
  | 1, _ => rfl
  | 2, _ => rfl
  | 3, _ => rfl
  | 4, _ => rfl
  | 5, _ => rfl
  | 6, _ => rfl
  | 7, _ => rfl
/-- Words to which k of others have been added. -/
def addC (s v : Wds) (k : Nat) : Array Value := (w32 ((List.zipWith (· + ·) s.ws v.ws).take k ++ s.ws.drop k)).toArray
theorem addC_at (s v : Wds) (k : Nat) (h : k < 8) : (addC s v k)[k]? = some (.int .u32 ((s.ws.getD k 0).toNat : Int)) :=
  match k, h with
  | 0, _ => rfl
  | 1, _ => rfl
  | 2, _ => rfl
  | 3, _ => rfl
  | 4, _ => rfl
  | 5, _ => rfl
  | 6, _ => rfl
  | 7, _ => rfl
theorem addC_set (s v : Wds) (k : Nat) (h : k < 8) : (addC s v k).setIfInBounds k (.int .u32 ((s.ws.getD k 0 + v.ws.getD k 0).toNat : Int)) = addC s v (k + 1) :=
  match k, h with
  | 0, _ => rfl
  | 1, _ => rfl
  | 2, _ => rfl
  | 3, _ => rfl
  | 4, _ => rfl
  | 5, _ => rfl
  | 6, _ => rfl
  | 7, _ => rfl
theorem addC_zero (s v : Wds) : addC s v 0 = s.cs := rfl
theorem addC_eight (s v : Wds) : addC s v 8 = (s.add v).cs := rfl
theorem index_arr {P : Program} {w : World} (t e : TypeId) (n : Nat) (cs : Array Value) (i : Nat) (v : Value) (h : P.underlying t = some (.array n e)) (hs : ∀ w, (sizeOf e).run P w = .ok 1 w) (ha : ∀ w, (isAgg e).run P w = .ok false w) (hi : i < n) (hv : cs[i]? = some v) :
    (Instr.index t (.agg cs) (.int .i64 (i : Int))).run P w = .ok v w := by
  simp [Instr.index, run_underlying h, asIntOf, hi, go_sem, hs, ha, hv]
theorem t_mod (a b c d e : B32) : (((a.toNat : Int) + (b.toNat : Int) + (c.toNat : Int) + (d.toNat : Int)) % 4294967296 + (e.toNat : Int)) % 4294967296 = ((a + b + c + d + e).toNat : Int) := by
  rw [← m32_add, ← m32_add, ← m32_add, ← m32_add]
  omega
theorem blk_val {W : World} {a : Addr} {z z' : Int} {g : Nat} {t : TypeId} {cs : Array Value} (h : Blk (W.setCell a (.int .u32 z)) g t cs) (e : z' = z) : Blk (W.setCell a (.int .u32 z')) g t cs := e ▸ h
theorem bew_val (p q r s : B8) : bits .or .u32 (bits .or .u32 (bits .or .u32 ((p.toNat : Int) * (16777216 : Int)) ((q.toNat : Int) * (65536 : Int))) ((r.toNat : Int) * (256 : Int))) (s.toNat : Int) = ((bew p q r s).toNat : Int) := by
  rw [u8_sh24, u8_sh16, u8_sh8, u32_or, u32_or, or_u8]
  rfl
theorem next_val (x16 x7 x15 x2 : B32) : (((((x16.toNat : Int) + (x7.toNat : Int)) % 4294967296 + bits .xor .u32 (bits .xor .u32 ((rot x15 7).toNat : Int) ((rot x15 18).toNat : Int)) ((x15.toNat : Int) / (8 : Int))) % 4294967296 +
      bits .xor .u32 (bits .xor .u32 ((rot x2 17).toNat : Int) ((rot x2 19).toNat : Int)) ((x2.toNat : Int) / (1024 : Int))) % 4294967296) = ((x16 + x7 + sg0 x15 + sg1 x2).toNat : Int) := by
  rw [m32_shr3, m32_shr10, u32_xor, u32_xor, u32_xor, u32_xor, m32_add, m32_add, m32_add]
  rfl

/-- Block g is just the cells cs, of whatever element type, whatever of it is frozen (a variable of the program). -/
def RowAt (w : World) (g : Nat) (cs : Array Value) : Prop := ∃ t fr, w.heap[g]? = some (.cells cs t fr)
section
variable {w w' : World} {g : Nat} {cs : Array Value}
theorem RowAt.lt (h : RowAt w g cs) : g < w.heap.size := by
  obtain ⟨t, fr, h⟩ := h
  exact (Array.getElem?_eq_some_iff.1 h).1
theorem RowAt.cell (h : RowAt w g cs) (i : Nat) : w.cell? ⟨g, i, none⟩ = cs[i]? := by
  obtain ⟨t, fr, h⟩ := h
  exact cell_of_row w g i cs t fr h
theorem RowAt.of (h : RowAt w g cs) (hk : w'.heap[g]? = w.heap[g]?) : RowAt w' g cs := by
  obtain ⟨t, fr, h⟩ := h
  exact ⟨t, fr, hk.trans h⟩
theorem RowAt.drewN (h : RowAt w g cs) (n : Nat) : RowAt (w.drewN n) g cs := h
theorem RowAt.alloc (h : RowAt w g cs) (o : Obj) : RowAt (w.alloc o) g cs := h.of (Below.heap_alloc w o g h.lt)
theorem RowAt.far (h : RowAt w g cs) {p : Addr} (hp : g ≠ p.block) (u : Value) : RowAt (w.setCell p u) g cs := h.of (Below.heap_setCell w p u g hp)
theorem RowAt.below {B : Nat} (h : RowAt w g cs) (hb : Below B w w') (hg : g < B) : RowAt w' g cs := h.of (hb.block g hg)
theorem RowAt.grown {row : Option Nat} (h : RowAt w g cs) (hb : w.grownBy w' row) (hg : some g ≠ row) : RowAt w' g cs := h.of (hb.block g h.lt hg)
end
/-- The round numbers where the program keeps them. -/
def RksAt (w : World) : Prop := RowAt w 1 (w32 rks).toArray
theorem stop_load_global {P : Program} {ops : Array Oper} {Q : Exit → Act → World → Prop} {rest : List Oper} {a : Act} {w : World} {d : Option Tmp} {ty t : TypeId} {pos : String} {after : Array Edge} {g : Option (Nat × Bool)} {i : Nat}
    (h : Stopped (wpList P ops Q ({ dst := d, op := .load t (.global i), type := ty, pos := pos, after := after, guard := g } :: rest) a w)) :
    wpList P ops Q ({ dst := d, op := .load t (.global i), type := ty, pos := pos, after := after, guard := g } :: rest) a w := h
theorem RksAt.load {w : World} (h : RksAt w) : (Instr.loadAt 64 (.pointer (some ⟨1, 0, none⟩))).run Tryd.prog w = .ok (.agg (w32 rks).toArray) w := by
  have := run_loadAt_mid (P := Tryd.prog) w 1 0 64 (w32 rks) _ (fun j v hv => by rw [Nat.zero_add, h.cell]; simpa using hv) Tryd.underlying64 rfl (by kernel_rfl)
  exact this
theorem RksAt.below {w w' : World} {B : Nat} (h : RksAt w) (hb : Below B w w') (hB : 1 < B) : RksAt w' := RowAt.below h hb hB
theorem RksAt.drewN {w : World} (h : RksAt w) (n : Nat) : RksAt (w.drewN n) := h
theorem RksAt.lt {w : World} (h : RksAt w) : 1 < w.heap.size := RowAt.lt h

theorem u32_size (w : World) : (sizeOf 38).run Tryd.prog w = .ok 1 w := by kernel_rfl
theorem u32_agg (w : World) : (isAgg 38).run Tryd.prog w = .ok false w := by kernel_rfl
theorem rks_index (k : Nat) (hk : k < 64) (w : World) : (Instr.index 64 (.agg (w32 rks).toArray) (.int .i64 (k : Int))).run Tryd.prog w = .ok (.int .u32 ((rks.getD k 0).toNat : Int)) w :=
  index_arr _ _ 64 _ k _ Tryd.underlying64 u32_size u32_agg hk (by rw [List.getElem?_toArray]; exact w32_at rks k hk)
theorem wds_index (s : Wds) (k : Nat) (hk : k < 8) (w : World) : (Instr.index 63 (.agg #[.int .u32 (s.a.toNat : Int), .int .u32 (s.b.toNat : Int), .int .u32 (s.c.toNat : Int), .int .u32 (s.d.toNat : Int), .int .u32 (s.e.toNat : Int), .int .u32 (s.f.toNat : Int), .int .u32 (s.g.toNat : Int), .int .u32 (s.h.toNat : Int)]) (.int .i64 (k : Int))).run Tryd.prog w = .ok (.int .u32 ((s.ws.getD k 0).toNat : Int)) w :=
  index_arr _ _ 8 _ k _ Tryd.underlying63 u32_size u32_agg hk (s.cs_at k hk)

set_option maxRecDepth 100000 in
set_option maxHeartbeats 16000000 in
theorem block_any (sb : Nat) (s : Wds) (A : Option Addr) (c : Nat) (m : List B8) (w : World) (hm : 64 ≤ m.length) (hs : Blk w sb 63 s.cs) (hK : RksAt w) (hr : Rd w (· ≠ sb) A (bs m)) :
    Calls Tryd.prog 28 #[.pointer (some ⟨sb, 0, none⟩), .slice A m.length c] w fun e w' => e = .returned (.tuple #[]) ∧ Blk w' sb 63 (comp s m).cs ∧ w.grownBy w' (some sb) := by
  go_enter Tryd.func28, Tryd.ntmps28
  go_wp2_with fail
  have b0 : Below w.heap.size w (w.alloc (.cells (schC m 0) 64)) := (Below.refl _ _).alloc (Nat.le_refl _) _
  have hb0 : Blk (w.alloc (.cells (schC m 0) 64)) w.heap.size 64 (schC m 0) := Blk.new w _ (schC m 0)
  have hsb := hs.lt
  have hr0 := hr.imp (Q := fun b => b ≠ sb ∧ b < w.heap.size) fun b hb h => ⟨h, hb⟩
  go_loopw [22] (fun i wr => ∃ k : Nat, k ≤ 64 ∧ i = .int .i64 k ∧ Blk wr w.heap.size 64 (schC m k) ∧ Below w.heap.size w wr) (fun i _ => 64 - (intOf i).toNat)
  case atStart => exact ⟨0, by omega, rfl, hb0, b0⟩
  case round =>
    clear b0 hb0
    obtain ⟨k, hk, rfl, W, bw⟩ := hrel
    by_cases hlt : k < 64
    · by_cases h16 : k < 16
      · obtain ⟨b, off, rfl, ⟨hne, hbw⟩, hc⟩ := (hr0.below bw (fun b _ h => h.2)) (by simp; omega)
        obtain ⟨q0, E0⟩ : ∃ q, q = 4 * k := ⟨_, rfl⟩
        obtain ⟨q1, E1⟩ : ∃ q, q = 4 * k + 1 := ⟨_, rfl⟩
        obtain ⟨q2, E2⟩ : ∃ q, q = 4 * k + 2 := ⟨_, rfl⟩
        obtain ⟨q3, E3⟩ : ∃ q, q = 4 * k + 3 := ⟨_, rfl⟩
        have h0 := hc q0 (by simp; omega)
        have h1 := hc q1 (by simp; omega)
        have h2 := hc q2 (by simp; omega)
        have h3 := hc q3 (by simp; omega)
        rw [bs_getD] at h0 h1 h2 h3
        have NX := hide (show nextW m (sch m k) = bew (m.getD q0 0) (m.getD q1 0) (m.getD q2 0) (m.getD q3 0) by unfold nextW; rw [sch_length, if_pos h16, E0, E1, E2, E3])
        generalize m.getD q0 0 = p0 at *
        generalize m.getD q1 0 = p1 at *
        generalize m.getD q2 0 = p2 at *
        generalize m.getD q3 0 = p3 at *
        have R0 : IntKind.i64.wrap (4 * (k : Int)) = (q0 : Int) := by rw [IntKind.wrap_i64]; omega
        have R1 : IntKind.i64.wrap ((q0 : Int) + 1) = (q1 : Int) := by rw [IntKind.wrap_i64]; omega
        have R2 : IntKind.i64.wrap ((q0 : Int) + 2) = (q2 : Int) := by rw [IntKind.wrap_i64]; omega
        have R3 : IntKind.i64.wrap ((q0 : Int) + 3) = (q3 : Int) := by rw [IntKind.wrap_i64]; omega
        have L0 : (q0 : Int) < (m.length : Int) := by omega
        have L1 : (q1 : Int) < (m.length : Int) := by omega
        have L2 : (q2 : Int) < (m.length : Int) := by omega
        have L3 : (q3 : Int) < (m.length : Int) := by omega
        have HE := hide (And.intro E0 (And.intro E1 (And.intro E2 E3)))
        clear E0 E1 E2 E3
        clear hc
        have g0 : wr.cell? ⟨w.heap.size, k, none⟩ = some (.int .u32 0) := by rw [W.cell, schC_new m k hlt]
        have f0 := W.frozen k
        have n16 : ((k : Int) < 16) := by omega
        go_wp2_with fail
        refine wp_region_sink 35 (fun wx => Drew wr wx) (by kernel_rfl) (Drew.one (Drew.refl _)) (fun hHeld => ?_)
        refine sink_take (i := 0) (oi := _) (v := ?_) rfl (by kernel_rfl) (by decide) (by kernel_rfl) (by kernel_rfl) (by kernel_rfl) (by kernel_rfl) (fun _ _ _ h => h) (by rfl) (fun wx hSw => ?_) hHeld ?_
        rotate_left
        · have e0 := (hSw.cell _).trans h0; have e1 := (hSw.cell _).trans h1; have e2 := (hSw.cell _).trans h2; have e3 := (hSw.cell _).trans h3; go_simp
          with_reducible rfl
        try simp only [Act.put, List.setIfInBounds_toArray, List.set_cons_zero, List.set_cons_succ]
        refine sink_take (i := 1) (oi := _) (v := ?_) rfl (by kernel_rfl) (by decide) (by kernel_rfl) (by kernel_rfl) (by kernel_rfl) (by kernel_rfl) (fun _ _ _ h => h) (by rfl) (fun wx hSw => ?_) hHeld ?_
        rotate_left
        · have e0 := (hSw.cell _).trans h0; have e1 := (hSw.cell _).trans h1; have e2 := (hSw.cell _).trans h2; have e3 := (hSw.cell _).trans h3; go_simp
          with_reducible rfl
        try simp only [Act.put, List.setIfInBounds_toArray, List.set_cons_zero, List.set_cons_succ]
        refine sink_take (i := 2) (oi := _) (v := ?_) rfl (by kernel_rfl) (by decide) (by kernel_rfl) (by kernel_rfl) (by kernel_rfl) (by kernel_rfl) (fun _ _ _ h => h) (by rfl) (fun wx hSw => ?_) hHeld ?_
        rotate_left
        · have e0 := (hSw.cell _).trans h0; have e1 := (hSw.cell _).trans h1; have e2 := (hSw.cell _).trans h2; have e3 := (hSw.cell _).trans h3; go_simp
          with_reducible rfl
        try simp only [Act.put, List.setIfInBounds_toArray, List.set_cons_zero, List.set_cons_succ]
        refine sink_take (i := 3) (oi := _) (v := ?_) rfl (by kernel_rfl) (by decide) (by kernel_rfl) (by kernel_rfl) (by kernel_rfl) (by kernel_rfl) (fun _ _ _ h => h) (by rfl) (fun wx hSw => ?_) hHeld ?_
        rotate_left
        · have e0 := (hSw.cell _).trans h0; have e1 := (hSw.cell _).trans h1; have e2 := (hSw.cell _).trans h2; have e3 := (hSw.cell _).trans h3; go_simp
          with_reducible rfl
        try simp only [Act.put, List.setIfInBounds_toArray, List.set_cons_zero, List.set_cons_succ]
        refine sink_take (i := 4) (oi := _) (v := ?_) rfl (by kernel_rfl) (by decide) (by kernel_rfl) (by kernel_rfl) (by kernel_rfl) (by kernel_rfl) (fun _ _ _ h => h) (by rfl) (fun wx hSw => ?_) hHeld ?_
        rotate_left
        · have e0 := (hSw.cell _).trans h0; have e1 := (hSw.cell _).trans h1; have e2 := (hSw.cell _).trans h2; have e3 := (hSw.cell _).trans h3; go_simp
          with_reducible rfl
        try simp only [Act.put, List.setIfInBounds_toArray, List.set_cons_zero, List.set_cons_succ]
        refine sink_take (i := 5) (oi := _) (v := ?_) rfl (by kernel_rfl) (by decide) (by kernel_rfl) (by kernel_rfl) (by kernel_rfl) (by kernel_rfl) (fun _ _ _ h => h) (by rfl) (fun wx hSw => ?_) hHeld ?_
        rotate_left
        · have e0 := (hSw.cell _).trans h0; have e1 := (hSw.cell _).trans h1; have e2 := (hSw.cell _).trans h2; have e3 := (hSw.cell _).trans h3; go_simp
          with_reducible rfl
        try simp only [Act.put, List.setIfInBounds_toArray, List.set_cons_zero, List.set_cons_succ]
        refine sink_take (i := 6) (oi := _) (v := ?_) rfl (by kernel_rfl) (by decide) (by kernel_rfl) (by kernel_rfl) (by kernel_rfl) (by kernel_rfl) (fun _ _ _ h => h) (by rfl) (fun wx hSw => ?_) hHeld ?_
        rotate_left
        · have e0 := (hSw.cell _).trans h0; have e1 := (hSw.cell _).trans h1; have e2 := (hSw.cell _).trans h2; have e3 := (hSw.cell _).trans h3; go_simp
          with_reducible rfl
        try simp only [Act.put, List.setIfInBounds_toArray, List.set_cons_zero, List.set_cons_succ]
        refine sink_take (i := 7) (oi := _) (v := ?_) rfl (by kernel_rfl) (by decide) (by kernel_rfl) (by kernel_rfl) (by kernel_rfl) (by kernel_rfl) (fun _ _ _ h => h) (by rfl) (fun wx hSw => ?_) hHeld ?_
        rotate_left
        · have e0 := (hSw.cell _).trans h0; have e1 := (hSw.cell _).trans h1; have e2 := (hSw.cell _).trans h2; have e3 := (hSw.cell _).trans h3; go_simp
          with_reducible rfl
        try simp only [Act.put, List.setIfInBounds_toArray, List.set_cons_zero, List.set_cons_succ]
        refine sink_take (i := 8) (oi := _) (v := ?_) rfl (by kernel_rfl) (by decide) (by kernel_rfl) (by kernel_rfl) (by kernel_rfl) (by kernel_rfl) (fun _ _ _ h => h) (by rfl) (fun wx hSw => ?_) hHeld ?_
        rotate_left
        · have e0 := (hSw.cell _).trans h0; have e1 := (hSw.cell _).trans h1; have e2 := (hSw.cell _).trans h2; have e3 := (hSw.cell _).trans h3; go_simp
          with_reducible rfl
        try simp only [Act.put, List.setIfInBounds_toArray, List.set_cons_zero, List.set_cons_succ]
        refine sink_take (i := 9) (oi := _) (v := ?_) rfl (by kernel_rfl) (by decide) (by kernel_rfl) (by kernel_rfl) (by kernel_rfl) (by kernel_rfl) (fun _ _ _ h => h) (by rfl) (fun wx hSw => ?_) hHeld ?_
        rotate_left
        · have e0 := (hSw.cell _).trans h0; have e1 := (hSw.cell _).trans h1; have e2 := (hSw.cell _).trans h2; have e3 := (hSw.cell _).trans h3; go_simp
          with_reducible rfl
        try simp only [Act.put, List.setIfInBounds_toArray, List.set_cons_zero, List.set_cons_succ]
        refine sink_take (i := 10) (oi := _) (v := ?_) rfl (by kernel_rfl) (by decide) (by kernel_rfl) (by kernel_rfl) (by kernel_rfl) (by kernel_rfl) (fun _ _ _ h => h) (by rfl) (fun wx hSw => ?_) hHeld ?_
        rotate_left
        · have e0 := (hSw.cell _).trans h0; have e1 := (hSw.cell _).trans h1; have e2 := (hSw.cell _).trans h2; have e3 := (hSw.cell _).trans h3; go_simp
          with_reducible rfl
        try simp only [Act.put, List.setIfInBounds_toArray, List.set_cons_zero, List.set_cons_succ]
        refine sink_take (i := 11) (oi := _) (v := ?_) rfl (by kernel_rfl) (by decide) (by kernel_rfl) (by kernel_rfl) (by kernel_rfl) (by kernel_rfl) (fun _ _ _ h => h) (by rfl) (fun wx hSw => ?_) hHeld ?_
        rotate_left
        · have e0 := (hSw.cell _).trans h0; have e1 := (hSw.cell _).trans h1; have e2 := (hSw.cell _).trans h2; have e3 := (hSw.cell _).trans h3; go_simp
          with_reducible rfl
        try simp only [Act.put, List.setIfInBounds_toArray, List.set_cons_zero, List.set_cons_succ]
        refine sink_take (i := 12) (oi := _) (v := ?_) rfl (by kernel_rfl) (by decide) (by kernel_rfl) (by kernel_rfl) (by kernel_rfl) (by kernel_rfl) (fun _ _ _ h => h) (by rfl) (fun wx hSw => ?_) hHeld ?_
        rotate_left
        · have e0 := (hSw.cell _).trans h0; have e1 := (hSw.cell _).trans h1; have e2 := (hSw.cell _).trans h2; have e3 := (hSw.cell _).trans h3; go_simp
          with_reducible rfl
        try simp only [Act.put, List.setIfInBounds_toArray, List.set_cons_zero, List.set_cons_succ]
        refine sink_take (i := 13) (oi := _) (v := ?_) rfl (by kernel_rfl) (by decide) (by kernel_rfl) (by kernel_rfl) (by kernel_rfl) (by kernel_rfl) (fun _ _ _ h => h) (by rfl) (fun wx hSw => ?_) hHeld ?_
        rotate_left
        · have e0 := (hSw.cell _).trans h0; have e1 := (hSw.cell _).trans h1; have e2 := (hSw.cell _).trans h2; have e3 := (hSw.cell _).trans h3; go_simp
          with_reducible rfl
        try simp only [Act.put, List.setIfInBounds_toArray, List.set_cons_zero, List.set_cons_succ]
        refine sink_take (i := 14) (oi := _) (v := ?_) rfl (by kernel_rfl) (by decide) (by kernel_rfl) (by kernel_rfl) (by kernel_rfl) (by kernel_rfl) (fun _ _ _ h => h) (by rfl) (fun wx hSw => ?_) hHeld ?_
        rotate_left
        · have e0 := (hSw.cell _).trans h0; have e1 := (hSw.cell _).trans h1; have e2 := (hSw.cell _).trans h2; have e3 := (hSw.cell _).trans h3; go_simp
          with_reducible rfl
        try simp only [Act.put, List.setIfInBounds_toArray, List.set_cons_zero, List.set_cons_succ]
        refine sink_take (i := 15) (oi := _) (v := ?_) rfl (by kernel_rfl) (by decide) (by kernel_rfl) (by kernel_rfl) (by kernel_rfl) (by kernel_rfl) (fun _ _ _ h => h) (by rfl) (fun wx hSw => ?_) hHeld ?_
        rotate_left
        · have e0 := (hSw.cell _).trans h0; have e1 := (hSw.cell _).trans h1; have e2 := (hSw.cell _).trans h2; have e3 := (hSw.cell _).trans h3; go_simp
          with_reducible rfl
        try simp only [Act.put, List.setIfInBounds_toArray, List.set_cons_zero, List.set_cons_succ]
        refine sink_take (i := 16) (oi := _) (v := ?_) rfl (by kernel_rfl) (by decide) (by kernel_rfl) (by kernel_rfl) (by kernel_rfl) (by kernel_rfl) (fun _ _ _ h => h) (by rfl) (fun wx hSw => ?_) hHeld ?_
        rotate_left
        · have e0 := (hSw.cell _).trans h0; have e1 := (hSw.cell _).trans h1; have e2 := (hSw.cell _).trans h2; have e3 := (hSw.cell _).trans h3; go_simp
          with_reducible rfl
        try simp only [Act.put, List.setIfInBounds_toArray, List.set_cons_zero, List.set_cons_succ]
        refine sink_take (i := 17) (oi := _) (v := ?_) rfl (by kernel_rfl) (by decide) (by kernel_rfl) (by kernel_rfl) (by kernel_rfl) (by kernel_rfl) (fun _ _ _ h => h) (by rfl) (fun wx hSw => ?_) hHeld ?_
        rotate_left
        · have e0 := (hSw.cell _).trans h0; have e1 := (hSw.cell _).trans h1; have e2 := (hSw.cell _).trans h2; have e3 := (hSw.cell _).trans h3; go_simp
          with_reducible rfl
        try simp only [Act.put, List.setIfInBounds_toArray, List.set_cons_zero, List.set_cons_succ]
        refine sink_take (i := 18) (oi := _) (v := ?_) rfl (by kernel_rfl) (by decide) (by kernel_rfl) (by kernel_rfl) (by kernel_rfl) (by kernel_rfl) (fun _ _ _ h => h) (by rfl) (fun wx hSw => ?_) hHeld ?_
        rotate_left
        · have e0 := (hSw.cell _).trans h0; have e1 := (hSw.cell _).trans h1; have e2 := (hSw.cell _).trans h2; have e3 := (hSw.cell _).trans h3; go_simp
          with_reducible rfl
        try simp only [Act.put, List.setIfInBounds_toArray, List.set_cons_zero, List.set_cons_succ]
        refine sink_take (i := 19) (oi := _) (v := ?_) rfl (by kernel_rfl) (by decide) (by kernel_rfl) (by kernel_rfl) (by kernel_rfl) (by kernel_rfl) (fun _ _ _ h => h) (by rfl) (fun wx hSw => ?_) hHeld ?_
        rotate_left
        · have e0 := (hSw.cell _).trans h0; have e1 := (hSw.cell _).trans h1; have e2 := (hSw.cell _).trans h2; have e3 := (hSw.cell _).trans h3; go_simp
          with_reducible rfl
        try simp only [Act.put, List.setIfInBounds_toArray, List.set_cons_zero, List.set_cons_succ]
        refine sink_take (i := 20) (oi := _) (v := ?_) rfl (by kernel_rfl) (by decide) (by kernel_rfl) (by kernel_rfl) (by kernel_rfl) (by kernel_rfl) (fun _ _ _ h => h) (by rfl) (fun wx hSw => ?_) hHeld ?_
        rotate_left
        · have e0 := (hSw.cell _).trans h0; have e1 := (hSw.cell _).trans h1; have e2 := (hSw.cell _).trans h2; have e3 := (hSw.cell _).trans h3; go_simp
          with_reducible rfl
        try simp only [Act.put, List.setIfInBounds_toArray, List.set_cons_zero, List.set_cons_succ]
        refine sink_take (i := 21) (oi := _) (v := ?_) rfl (by kernel_rfl) (by decide) (by kernel_rfl) (by kernel_rfl) (by kernel_rfl) (by kernel_rfl) (fun _ _ _ h => h) (by rfl) (fun wx hSw => ?_) hHeld ?_
        rotate_left
        · have e0 := (hSw.cell _).trans h0; have e1 := (hSw.cell _).trans h1; have e2 := (hSw.cell _).trans h2; have e3 := (hSw.cell _).trans h3; go_simp
          with_reducible rfl
        try simp only [Act.put, List.setIfInBounds_toArray, List.set_cons_zero, List.set_cons_succ]
        refine sink_take (i := 22) (oi := _) (v := ?_) rfl (by kernel_rfl) (by decide) (by kernel_rfl) (by kernel_rfl) (by kernel_rfl) (by kernel_rfl) (fun _ _ _ h => h) (by rfl) (fun wx hSw => ?_) hHeld ?_
        rotate_left
        · have e0 := (hSw.cell _).trans h0; have e1 := (hSw.cell _).trans h1; have e2 := (hSw.cell _).trans h2; have e3 := (hSw.cell _).trans h3; go_simp
          with_reducible rfl
        try simp only [Act.put, List.setIfInBounds_toArray, List.set_cons_zero, List.set_cons_succ]
        refine sink_take (i := 23) (oi := _) (v := ?_) rfl (by kernel_rfl) (by decide) (by kernel_rfl) (by kernel_rfl) (by kernel_rfl) (by kernel_rfl) (fun _ _ _ h => h) (by rfl) (fun wx hSw => ?_) hHeld ?_
        rotate_left
        · have e0 := (hSw.cell _).trans h0; have e1 := (hSw.cell _).trans h1; have e2 := (hSw.cell _).trans h2; have e3 := (hSw.cell _).trans h3; go_simp
          with_reducible rfl
        try simp only [Act.put, List.setIfInBounds_toArray, List.set_cons_zero, List.set_cons_succ]
        refine sink_take (i := 24) (oi := _) (v := ?_) rfl (by kernel_rfl) (by decide) (by kernel_rfl) (by kernel_rfl) (by kernel_rfl) (by kernel_rfl) (fun _ _ _ h => h) (by rfl) (fun wx hSw => ?_) hHeld ?_
        rotate_left
        · have e0 := (hSw.cell _).trans h0; have e1 := (hSw.cell _).trans h1; have e2 := (hSw.cell _).trans h2; have e3 := (hSw.cell _).trans h3; go_simp
          with_reducible rfl
        try simp only [Act.put, List.setIfInBounds_toArray, List.set_cons_zero, List.set_cons_succ]
        refine sink_take (i := 25) (oi := _) (v := ?_) rfl (by kernel_rfl) (by decide) (by kernel_rfl) (by kernel_rfl) (by kernel_rfl) (by kernel_rfl) (fun _ _ _ h => h) (by rfl) (fun wx hSw => ?_) hHeld ?_
        rotate_left
        · have e0 := (hSw.cell _).trans h0; have e1 := (hSw.cell _).trans h1; have e2 := (hSw.cell _).trans h2; have e3 := (hSw.cell _).trans h3; go_simp
          with_reducible rfl
        try simp only [Act.put, List.setIfInBounds_toArray, List.set_cons_zero, List.set_cons_succ]
        refine sink_take (i := 26) (oi := _) (v := ?_) rfl (by kernel_rfl) (by decide) (by kernel_rfl) (by kernel_rfl) (by kernel_rfl) (by kernel_rfl) (fun _ _ _ h => h) (by rfl) (fun wx hSw => ?_) hHeld ?_
        rotate_left
        · have e0 := (hSw.cell _).trans h0; have e1 := (hSw.cell _).trans h1; have e2 := (hSw.cell _).trans h2; have e3 := (hSw.cell _).trans h3; go_simp
          with_reducible rfl
        try simp only [Act.put, List.setIfInBounds_toArray, List.set_cons_zero, List.set_cons_succ]
        refine sink_take (i := 27) (oi := _) (v := ?_) rfl (by kernel_rfl) (by decide) (by kernel_rfl) (by kernel_rfl) (by kernel_rfl) (by kernel_rfl) (fun _ _ _ h => h) (by rfl) (fun wx hSw => ?_) hHeld ?_
        rotate_left
        · have e0 := (hSw.cell _).trans h0; have e1 := (hSw.cell _).trans h1; have e2 := (hSw.cell _).trans h2; have e3 := (hSw.cell _).trans h3; go_simp
          with_reducible rfl
        try simp only [Act.put, List.setIfInBounds_toArray, List.set_cons_zero, List.set_cons_succ]
        refine sink_take (i := 28) (oi := _) (v := ?_) rfl (by kernel_rfl) (by decide) (by kernel_rfl) (by kernel_rfl) (by kernel_rfl) (by kernel_rfl) (fun _ _ _ h => h) (by rfl) (fun wx hSw => ?_) hHeld ?_
        rotate_left
        · have e0 := (hSw.cell _).trans h0; have e1 := (hSw.cell _).trans h1; have e2 := (hSw.cell _).trans h2; have e3 := (hSw.cell _).trans h3; go_simp
          with_reducible rfl
        try simp only [Act.put, List.setIfInBounds_toArray, List.set_cons_zero, List.set_cons_succ]
        refine sink_take (i := 29) (oi := _) (v := ?_) rfl (by kernel_rfl) (by decide) (by kernel_rfl) (by kernel_rfl) (by kernel_rfl) (by kernel_rfl) (fun _ _ _ h => h) (by rfl) (fun wx hSw => ?_) hHeld ?_
        rotate_left
        · have e0 := (hSw.cell _).trans h0; have e1 := (hSw.cell _).trans h1; have e2 := (hSw.cell _).trans h2; have e3 := (hSw.cell _).trans h3; go_simp
          with_reducible rfl
        try simp only [Act.put, List.setIfInBounds_toArray, List.set_cons_zero, List.set_cons_succ]
        refine sink_take (i := 30) (oi := _) (v := ?_) rfl (by kernel_rfl) (by decide) (by kernel_rfl) (by kernel_rfl) (by kernel_rfl) (by kernel_rfl) (fun _ _ _ h => h) (by rfl) (fun wx hSw => ?_) hHeld ?_
        rotate_left
        · have e0 := (hSw.cell _).trans h0; have e1 := (hSw.cell _).trans h1; have e2 := (hSw.cell _).trans h2; have e3 := (hSw.cell _).trans h3; go_simp
          with_reducible rfl
        try simp only [Act.put, List.setIfInBounds_toArray, List.set_cons_zero, List.set_cons_succ]
        refine sink_take (i := 31) (oi := _) (v := ?_) rfl (by kernel_rfl) (by decide) (by kernel_rfl) (by kernel_rfl) (by kernel_rfl) (by kernel_rfl) (fun _ _ _ h => h) (by rfl) (fun wx hSw => ?_) hHeld ?_
        rotate_left
        · have e0 := (hSw.cell _).trans h0; have e1 := (hSw.cell _).trans h1; have e2 := (hSw.cell _).trans h2; have e3 := (hSw.cell _).trans h3; go_simp
          with_reducible rfl
        try simp only [Act.put, List.setIfInBounds_toArray, List.set_cons_zero, List.set_cons_succ]
        refine sink_take (i := 32) (oi := _) (v := ?_) rfl (by kernel_rfl) (by decide) (by kernel_rfl) (by kernel_rfl) (by kernel_rfl) (by kernel_rfl) (fun _ _ _ h => h) (by rfl) (fun wx hSw => ?_) hHeld ?_
        rotate_left
        · have e0 := (hSw.cell _).trans h0; have e1 := (hSw.cell _).trans h1; have e2 := (hSw.cell _).trans h2; have e3 := (hSw.cell _).trans h3; go_simp
          with_reducible rfl
        try simp only [Act.put, List.setIfInBounds_toArray, List.set_cons_zero, List.set_cons_succ]
        refine sink_take (i := 33) (oi := _) (v := ?_) rfl (by kernel_rfl) (by decide) (by kernel_rfl) (by kernel_rfl) (by kernel_rfl) (by kernel_rfl) (fun _ _ _ h => h) (by rfl) (fun wx hSw => ?_) hHeld ?_
        rotate_left
        · have e0 := (hSw.cell _).trans h0; have e1 := (hSw.cell _).trans h1; have e2 := (hSw.cell _).trans h2; have e3 := (hSw.cell _).trans h3; go_simp
          with_reducible rfl
        try simp only [Act.put, List.setIfInBounds_toArray, List.set_cons_zero, List.set_cons_succ]
        refine sink_take (i := 34) (oi := _) (v := ?_) rfl (by kernel_rfl) (by decide) (by kernel_rfl) (by kernel_rfl) (by kernel_rfl) (by kernel_rfl) (fun _ _ _ h => h) (by rfl) (fun wx hSw => ?_) hHeld ?_
        rotate_left
        · have e0 := (hSw.cell _).trans h0; have e1 := (hSw.cell _).trans h1; have e2 := (hSw.cell _).trans h2; have e3 := (hSw.cell _).trans h3; go_simp
          with_reducible rfl
        try simp only [Act.put, List.setIfInBounds_toArray, List.set_cons_zero, List.set_cons_succ]
        have f2 := (hHeld.blk W).frozen k
        have g2 := (hHeld.cell _).trans g0
        refine sink_last (by kernel_rfl) rfl (by kernel_rfl) (by kernel_rfl) (fun K hK => ?_)
        go_simp
        refine hK.out _ _ ?_
        clear hK K
        try simp only [Act.put, List.setIfInBounds_toArray, List.set_cons_zero, List.set_cons_succ]
        go_wp2_with fail
        go_roundw
        case rel =>
          have hs2 := (W.set_ k (.int .u32 ((nextW m (sch m k)).toNat : Int))).drew
          rw [schC_set _ _ hlt, NX.out] at hs2
          refine ⟨k + 1, by omega, by go_num, blk_val (W := wr) hs2 (bew_val p0 p1 p2 p3), ?_⟩
          exact (bw.setCell (p := ⟨w.heap.size, k, none⟩) (Nat.le_refl _) _).drew
        case measure => simp [intOf]; omega
      · obtain ⟨r15, E15⟩ : ∃ q, q = k - 15 := ⟨_, rfl⟩
        obtain ⟨r2, E2⟩ : ∃ q, q = k - 2 := ⟨_, rfl⟩
        obtain ⟨r16, E16⟩ : ∃ q, q = k - 16 := ⟨_, rfl⟩
        obtain ⟨r7, E7⟩ : ∃ q, q = k - 7 := ⟨_, rfl⟩
        have NX := hide (show nextW m (sch m k) = (sch m k).getD r16 0 + (sch m k).getD r7 0 + sg0 ((sch m k).getD r15 0) + sg1 ((sch m k).getD r2 0) by unfold nextW; rw [sch_length, if_neg h16, E16, E7, E15, E2])
        have g15 : wr.cell? ⟨w.heap.size, r15, none⟩ = _ := (W.cell r15).trans (schC_at m k r15 (by omega))
        have g2 : wr.cell? ⟨w.heap.size, r2, none⟩ = _ := (W.cell r2).trans (schC_at m k r2 (by omega))
        have g16 : wr.cell? ⟨w.heap.size, r16, none⟩ = _ := (W.cell r16).trans (schC_at m k r16 (by omega))
        have g7 : wr.cell? ⟨w.heap.size, r7, none⟩ = _ := (W.cell r7).trans (schC_at m k r7 (by omega))
        generalize (sch m k).getD r15 0 = x15 at *
        generalize (sch m k).getD r2 0 = x2 at *
        generalize (sch m k).getD r16 0 = x16 at *
        generalize (sch m k).getD r7 0 = x7 at *
        have g0 : wr.cell? ⟨w.heap.size, k, none⟩ = some (.int .u32 0) := by rw [W.cell, schC_new m k hlt]
        have f0 := W.frozen k
        have R15 : (k : Int) - 15 = (r15 : Int) := by omega
        have R2 : (k : Int) - 2 = (r2 : Int) := by omega
        have R16 : (k : Int) - 16 = (r16 : Int) := by omega
        have R7 : (k : Int) - 7 = (r7 : Int) := by omega
        have S16 : IntKind.i64.wrap (r16 : Int) = (r16 : Int) := by rw [IntKind.wrap_i64]; omega
        have S7 : IntKind.i64.wrap (r7 : Int) = (r7 : Int) := by rw [IntKind.wrap_i64]; omega
        have L15 : (r15 : Int) < 64 := by omega
        have L2 : (r2 : Int) < 64 := by omega
        have L16 : (r16 : Int) < 64 := by omega
        have L7 : (r7 : Int) < 64 := by omega
        have n16 : ¬ ((k : Int) < 16) := by omega
        clear E15 E2 E16 E7
        go_wp2_with fail
        go_quiet (fail)
        go_wp2_with fail
        refine wp_region_sink 29 (fun wx => Drew wr wx) (by kernel_rfl) (Drew.one ((Drew.refl _).more nq)) (fun hHeld => ?_)
        refine sink_take (i := 0) (oi := _) (v := ?_) rfl (by kernel_rfl) (by decide) (by kernel_rfl) (by kernel_rfl) (by kernel_rfl) (by kernel_rfl) (fun _ _ _ h => h) (by rfl) (fun wx hSw => ?_) hHeld ?_
        rotate_left
        · have e16 := (hSw.cell _).trans g16; have e7 := (hSw.cell _).trans g7; go_simp
          with_reducible rfl
        try simp only [Act.put, List.setIfInBounds_toArray, List.set_cons_zero, List.set_cons_succ]
        refine sink_take (i := 1) (oi := _) (v := ?_) rfl (by kernel_rfl) (by decide) (by kernel_rfl) (by kernel_rfl) (by kernel_rfl) (by kernel_rfl) (fun _ _ _ h => h) (by rfl) (fun wx hSw => ?_) hHeld ?_
        rotate_left
        · have e16 := (hSw.cell _).trans g16; have e7 := (hSw.cell _).trans g7; go_simp
          with_reducible rfl
        try simp only [Act.put, List.setIfInBounds_toArray, List.set_cons_zero, List.set_cons_succ]
        refine sink_take (i := 2) (oi := _) (v := ?_) rfl (by kernel_rfl) (by decide) (by kernel_rfl) (by kernel_rfl) (by kernel_rfl) (by kernel_rfl) (fun _ _ _ h => h) (by rfl) (fun wx hSw => ?_) hHeld ?_
        rotate_left
        · have e16 := (hSw.cell _).trans g16; have e7 := (hSw.cell _).trans g7; go_simp
          with_reducible rfl
        try simp only [Act.put, List.setIfInBounds_toArray, List.set_cons_zero, List.set_cons_succ]
        refine sink_take (i := 3) (oi := _) (v := ?_) rfl (by kernel_rfl) (by decide) (by kernel_rfl) (by kernel_rfl) (by kernel_rfl) (by kernel_rfl) (fun _ _ _ h => h) (by rfl) (fun wx hSw => ?_) hHeld ?_
        rotate_left
        · have e16 := (hSw.cell _).trans g16; have e7 := (hSw.cell _).trans g7; go_simp
          with_reducible rfl
        try simp only [Act.put, List.setIfInBounds_toArray, List.set_cons_zero, List.set_cons_succ]
        refine sink_take (i := 4) (oi := _) (v := ?_) rfl (by kernel_rfl) (by decide) (by kernel_rfl) (by kernel_rfl) (by kernel_rfl) (by kernel_rfl) (fun _ _ _ h => h) (by rfl) (fun wx hSw => ?_) hHeld ?_
        rotate_left
        · have e16 := (hSw.cell _).trans g16; have e7 := (hSw.cell _).trans g7; go_simp
          with_reducible rfl
        try simp only [Act.put, List.setIfInBounds_toArray, List.set_cons_zero, List.set_cons_succ]
        refine sink_take (i := 5) (oi := _) (v := ?_) rfl (by kernel_rfl) (by decide) (by kernel_rfl) (by kernel_rfl) (by kernel_rfl) (by kernel_rfl) (fun _ _ _ h => h) (by rfl) (fun wx hSw => ?_) hHeld ?_
        rotate_left
        · have e16 := (hSw.cell _).trans g16; have e7 := (hSw.cell _).trans g7; go_simp
          with_reducible rfl
        try simp only [Act.put, List.setIfInBounds_toArray, List.set_cons_zero, List.set_cons_succ]
        refine sink_take (i := 6) (oi := _) (v := ?_) rfl (by kernel_rfl) (by decide) (by kernel_rfl) (by kernel_rfl) (by kernel_rfl) (by kernel_rfl) (fun _ _ _ h => h) (by rfl) (fun wx hSw => ?_) hHeld ?_
        rotate_left
        · have e16 := (hSw.cell _).trans g16; have e7 := (hSw.cell _).trans g7; go_simp
          with_reducible rfl
        try simp only [Act.put, List.setIfInBounds_toArray, List.set_cons_zero, List.set_cons_succ]
        refine sink_take (i := 7) (oi := _) (v := ?_) rfl (by kernel_rfl) (by decide) (by kernel_rfl) (by kernel_rfl) (by kernel_rfl) (by kernel_rfl) (fun _ _ _ h => h) (by rfl) (fun wx hSw => ?_) hHeld ?_
        rotate_left
        · have e16 := (hSw.cell _).trans g16; have e7 := (hSw.cell _).trans g7; go_simp
          with_reducible rfl
        try simp only [Act.put, List.setIfInBounds_toArray, List.set_cons_zero, List.set_cons_succ]
        refine sink_take (i := 8) (oi := _) (v := ?_) rfl (by kernel_rfl) (by decide) (by kernel_rfl) (by kernel_rfl) (by kernel_rfl) (by kernel_rfl) (fun _ _ _ h => h) (by rfl) (fun wx hSw => ?_) hHeld ?_
        rotate_left
        · have e16 := (hSw.cell _).trans g16; have e7 := (hSw.cell _).trans g7; go_simp
          with_reducible rfl
        try simp only [Act.put, List.setIfInBounds_toArray, List.set_cons_zero, List.set_cons_succ]
        refine sink_take (i := 9) (oi := _) (v := ?_) rfl (by kernel_rfl) (by decide) (by kernel_rfl) (by kernel_rfl) (by kernel_rfl) (by kernel_rfl) (fun _ _ _ h => h) (by rfl) (fun wx hSw => ?_) hHeld ?_
        rotate_left
        · have e16 := (hSw.cell _).trans g16; have e7 := (hSw.cell _).trans g7; go_simp
          with_reducible rfl
        try simp only [Act.put, List.setIfInBounds_toArray, List.set_cons_zero, List.set_cons_succ]
        refine sink_take (i := 10) (oi := _) (v := ?_) rfl (by kernel_rfl) (by decide) (by kernel_rfl) (by kernel_rfl) (by kernel_rfl) (by kernel_rfl) (fun _ _ _ h => h) (by rfl) (fun wx hSw => ?_) hHeld ?_
        rotate_left
        · have e16 := (hSw.cell _).trans g16; have e7 := (hSw.cell _).trans g7; go_simp
          with_reducible rfl
        try simp only [Act.put, List.setIfInBounds_toArray, List.set_cons_zero, List.set_cons_succ]
        refine sink_call (i := 11) (oi := _) (v := .int .u32 (rot x15 7).toNat) rfl (by kernel_rfl) (by decide) (by kernel_rfl) (by kernel_rfl) (by kernel_rfl) (by kernel_rfl) (fun _ _ _ h => h) (by rfl) (fun wx hSw => ?_) hHeld ?_
        · go_simp
          exact turned_any x15 7 (by decide) (by decide) _
        try simp only [Act.put, List.setIfInBounds_toArray, List.set_cons_zero, List.set_cons_succ]
        refine sink_take (i := 12) (oi := _) (v := ?_) rfl (by kernel_rfl) (by decide) (by kernel_rfl) (by kernel_rfl) (by kernel_rfl) (by kernel_rfl) (fun _ _ _ h => h) (by rfl) (fun wx hSw => ?_) hHeld ?_
        rotate_left
        · go_simp
          with_reducible rfl
        try simp only [Act.put, List.setIfInBounds_toArray, List.set_cons_zero, List.set_cons_succ]
        refine sink_call (i := 13) (oi := _) (v := .int .u32 (rot x15 18).toNat) rfl (by kernel_rfl) (by decide) (by kernel_rfl) (by kernel_rfl) (by kernel_rfl) (by kernel_rfl) (fun _ _ _ h => h) (by rfl) (fun wx hSw => ?_) hHeld ?_
        · go_simp
          exact turned_any x15 18 (by decide) (by decide) _
        try simp only [Act.put, List.setIfInBounds_toArray, List.set_cons_zero, List.set_cons_succ]
        refine sink_take (i := 14) (oi := _) (v := ?_) rfl (by kernel_rfl) (by decide) (by kernel_rfl) (by kernel_rfl) (by kernel_rfl) (by kernel_rfl) (fun _ _ _ h => h) (by rfl) (fun wx hSw => ?_) hHeld ?_
        rotate_left
        · go_simp
          with_reducible rfl
        try simp only [Act.put, List.setIfInBounds_toArray, List.set_cons_zero, List.set_cons_succ]
        refine sink_take (i := 15) (oi := _) (v := ?_) rfl (by kernel_rfl) (by decide) (by kernel_rfl) (by kernel_rfl) (by kernel_rfl) (by kernel_rfl) (fun _ _ _ h => h) (by rfl) (fun wx hSw => ?_) hHeld ?_
        rotate_left
        · go_simp
          with_reducible rfl
        try simp only [Act.put, List.setIfInBounds_toArray, List.set_cons_zero, List.set_cons_succ]
        refine sink_take (i := 16) (oi := _) (v := ?_) rfl (by kernel_rfl) (by decide) (by kernel_rfl) (by kernel_rfl) (by kernel_rfl) (by kernel_rfl) (fun _ _ _ h => h) (by rfl) (fun wx hSw => ?_) hHeld ?_
        rotate_left
        · go_simp
          with_reducible rfl
        try simp only [Act.put, List.setIfInBounds_toArray, List.set_cons_zero, List.set_cons_succ]
        refine sink_take (i := 17) (oi := _) (v := ?_) rfl (by kernel_rfl) (by decide) (by kernel_rfl) (by kernel_rfl) (by kernel_rfl) (by kernel_rfl) (fun _ _ _ h => h) (by rfl) (fun wx hSw => ?_) hHeld ?_
        rotate_left
        · go_simp
          with_reducible rfl
        try simp only [Act.put, List.setIfInBounds_toArray, List.set_cons_zero, List.set_cons_succ]
        refine sink_take (i := 18) (oi := _) (v := ?_) rfl (by kernel_rfl) (by decide) (by kernel_rfl) (by kernel_rfl) (by kernel_rfl) (by kernel_rfl) (fun _ _ _ h => h) (by rfl) (fun wx hSw => ?_) hHeld ?_
        rotate_left
        · go_simp
          with_reducible rfl
        try simp only [Act.put, List.setIfInBounds_toArray, List.set_cons_zero, List.set_cons_succ]
        refine sink_take (i := 19) (oi := _) (v := ?_) rfl (by kernel_rfl) (by decide) (by kernel_rfl) (by kernel_rfl) (by kernel_rfl) (by kernel_rfl) (fun _ _ _ h => h) (by rfl) (fun wx hSw => ?_) hHeld ?_
        rotate_left
        · go_simp
          with_reducible rfl
        try simp only [Act.put, List.setIfInBounds_toArray, List.set_cons_zero, List.set_cons_succ]
        refine sink_call (i := 20) (oi := _) (v := .int .u32 (rot x2 17).toNat) rfl (by kernel_rfl) (by decide) (by kernel_rfl) (by kernel_rfl) (by kernel_rfl) (by kernel_rfl) (fun _ _ _ h => h) (by rfl) (fun wx hSw => ?_) hHeld ?_
        · go_simp
          exact turned_any x2 17 (by decide) (by decide) _
        try simp only [Act.put, List.setIfInBounds_toArray, List.set_cons_zero, List.set_cons_succ]
        refine sink_take (i := 21) (oi := _) (v := ?_) rfl (by kernel_rfl) (by decide) (by kernel_rfl) (by kernel_rfl) (by kernel_rfl) (by kernel_rfl) (fun _ _ _ h => h) (by rfl) (fun wx hSw => ?_) hHeld ?_
        rotate_left
        · go_simp
          with_reducible rfl
        try simp only [Act.put, List.setIfInBounds_toArray, List.set_cons_zero, List.set_cons_succ]
        refine sink_call (i := 22) (oi := _) (v := .int .u32 (rot x2 19).toNat) rfl (by kernel_rfl) (by decide) (by kernel_rfl) (by kernel_rfl) (by kernel_rfl) (by kernel_rfl) (fun _ _ _ h => h) (by rfl) (fun wx hSw => ?_) hHeld ?_
        · go_simp
          exact turned_any x2 19 (by decide) (by decide) _
        try simp only [Act.put, List.setIfInBounds_toArray, List.set_cons_zero, List.set_cons_succ]
        refine sink_take (i := 23) (oi := _) (v := ?_) rfl (by kernel_rfl) (by decide) (by kernel_rfl) (by kernel_rfl) (by kernel_rfl) (by kernel_rfl) (fun _ _ _ h => h) (by rfl) (fun wx hSw => ?_) hHeld ?_
        rotate_left
        · go_simp
          with_reducible rfl
        try simp only [Act.put, List.setIfInBounds_toArray, List.set_cons_zero, List.set_cons_succ]
        refine sink_take (i := 24) (oi := _) (v := ?_) rfl (by kernel_rfl) (by decide) (by kernel_rfl) (by kernel_rfl) (by kernel_rfl) (by kernel_rfl) (fun _ _ _ h => h) (by rfl) (fun wx hSw => ?_) hHeld ?_
        rotate_left
        · go_simp
          with_reducible rfl
        try simp only [Act.put, List.setIfInBounds_toArray, List.set_cons_zero, List.set_cons_succ]
        refine sink_take (i := 25) (oi := _) (v := ?_) rfl (by kernel_rfl) (by decide) (by kernel_rfl) (by kernel_rfl) (by kernel_rfl) (by kernel_rfl) (fun _ _ _ h => h) (by rfl) (fun wx hSw => ?_) hHeld ?_
        rotate_left
        · go_simp
          with_reducible rfl
        try simp only [Act.put, List.setIfInBounds_toArray, List.set_cons_zero, List.set_cons_succ]
        refine sink_take (i := 26) (oi := _) (v := ?_) rfl (by kernel_rfl) (by decide) (by kernel_rfl) (by kernel_rfl) (by kernel_rfl) (by kernel_rfl) (fun _ _ _ h => h) (by rfl) (fun wx hSw => ?_) hHeld ?_
        rotate_left
        · go_simp
          with_reducible rfl
        try simp only [Act.put, List.setIfInBounds_toArray, List.set_cons_zero, List.set_cons_succ]
        refine sink_take (i := 27) (oi := _) (v := ?_) rfl (by kernel_rfl) (by decide) (by kernel_rfl) (by kernel_rfl) (by kernel_rfl) (by kernel_rfl) (fun _ _ _ h => h) (by rfl) (fun wx hSw => ?_) hHeld ?_
        rotate_left
        · go_simp
          with_reducible rfl
        try simp only [Act.put, List.setIfInBounds_toArray, List.set_cons_zero, List.set_cons_succ]
        refine sink_take (i := 28) (oi := _) (v := ?_) rfl (by kernel_rfl) (by decide) (by kernel_rfl) (by kernel_rfl) (by kernel_rfl) (by kernel_rfl) (fun _ _ _ h => h) (by rfl) (fun wx hSw => ?_) hHeld ?_
        rotate_left
        · go_simp
          with_reducible rfl
        try simp only [Act.put, List.setIfInBounds_toArray, List.set_cons_zero, List.set_cons_succ]
        have f2 := (hHeld.blk W).frozen k
        have g2 := (hHeld.cell _).trans g0
        refine sink_last (by kernel_rfl) rfl (by kernel_rfl) (by kernel_rfl) (fun K hK => ?_)
        go_simp
        refine hK.out _ _ ?_
        clear hK K
        try simp only [Act.put, List.setIfInBounds_toArray, List.set_cons_zero, List.set_cons_succ]
        go_wp2_with fail
        go_roundw
        case rel =>
          have hs2 := (W.set_ k (.int .u32 ((nextW m (sch m k)).toNat : Int))).drew
          rw [schC_set _ _ hlt, NX.out] at hs2
          refine ⟨k + 1, by omega, by go_num, blk_val (W := wr.drewN (nq + 1)) hs2 (next_val x16 x7 x15 x2), ?_⟩
          exact (bw.trans (drewN_below _ wr (nq + 1))).setCell (p := ⟨w.heap.size, k, none⟩) (Nat.le_refl _) _
        case measure => simp [intOf]; omega
    · obtain rfl : k = 64 := by omega
      have S := hs.below bw hsb
      have s0 : wr.cell? ⟨sb, 0, none⟩ = some (.int .u32 (s.a.toNat : Int)) := S.cell 0
      have s1 : wr.cell? ⟨sb, 1, none⟩ = some (.int .u32 (s.b.toNat : Int)) := S.cell 1
      have s2 : wr.cell? ⟨sb, 2, none⟩ = some (.int .u32 (s.c.toNat : Int)) := S.cell 2
      have s3 : wr.cell? ⟨sb, 3, none⟩ = some (.int .u32 (s.d.toNat : Int)) := S.cell 3
      have s4 : wr.cell? ⟨sb, 4, none⟩ = some (.int .u32 (s.e.toNat : Int)) := S.cell 4
      have s5 : wr.cell? ⟨sb, 5, none⟩ = some (.int .u32 (s.f.toNat : Int)) := S.cell 5
      have s6 : wr.cell? ⟨sb, 6, none⟩ = some (.int .u32 (s.g.toNat : Int)) := S.cell 6
      have s7 : wr.cell? ⟨sb, 7, none⟩ = some (.int .u32 (s.h.toNat : Int)) := S.cell 7
      have hk1 := hK.below bw hK.lt
      clear hr hr0
      go_wp2_with fail
      go_quiet (fail)
      clear s0 s1 s2 s3 s4 s5 s6 s7
      go_wp2_with (with_reducible refine stop_load_global ?_)
      obtain ⟨tk1, fk1, hk1⟩ := hk1
      refine wpList_load_row rfl _ _ rfl 1 rfl _ _ _ _ (show (wr.drewN nq).heap[1]? = _ from hk1) Tryd.underlying64 rfl (by kernel_rfl) ?_
      have IX := rks_index
      have S3 := S.drewN nq
      have W3 := W.drewN nq
      have b3 := bw.trans (drewN_below _ wr nq)
      clear S W bw hk1 hs hK
      generalize (w32 rks).toArray = RA at *
      generalize wr.drewN nq = w3 at *
      have HIX := hide IX
      clear IX
      go_wp2_with fail
      go_loopw [133, 8, 9, 10, 11, 12, 13, 14, 15] (fun i a b c d e f g h wq => ∃ k : Nat, k ≤ 64 ∧ i = .int .i64 k ∧ a = .int .u32 ((rnds (sch m 64) s k).a.toNat : Int) ∧ b = .int .u32 ((rnds (sch m 64) s k).b.toNat : Int) ∧ c = .int .u32 ((rnds (sch m 64) s k).c.toNat : Int) ∧ d = .int .u32 ((rnds (sch m 64) s k).d.toNat : Int) ∧
        e = .int .u32 ((rnds (sch m 64) s k).e.toNat : Int) ∧ f = .int .u32 ((rnds (sch m 64) s k).f.toNat : Int) ∧ g = .int .u32 ((rnds (sch m 64) s k).g.toNat : Int) ∧ h = .int .u32 ((rnds (sch m 64) s k).h.toNat : Int) ∧ Drew w3 wq) (fun i _ _ _ _ _ _ _ _ _ => 64 - (intOf i).toNat)
      case atStart => exact ⟨0, by omega, rfl, rfl, rfl, rfl, rfl, rfl, rfl, rfl, rfl, Drew.refl _⟩
      case round =>
        obtain ⟨k, hk, rfl, rfl, rfl, rfl, rfl, rfl, rfl, rfl, rfl, hd⟩ := hrel
        by_cases hlt : k < 64
        · have ix := HIX.out k hlt
          have cw : wr.cell? ⟨w.heap.size, k, none⟩ = some (.int .u32 (((sch m 64).getD k 0).toNat : Int)) := (hd.cell _).trans ((W3.cell k).trans (schC_at m 64 k hlt))
          have NR := hide (show rnds (sch m 64) s (k + 1) = rnd (rnds (sch m 64) s k) (rks.getD k 0) ((sch m 64).getD k 0) from rfl)
          generalize rks.getD k 0 = kk at *
          generalize (sch m 64).getD k 0 = ww at *
          generalize rnds (sch m 64) s k = v at *
          go_wp2_with fail
          go_quiet ((go_at_call 32; first | exact quiet_left (turned_any v.e 6 (by decide) (by decide) _) | exact quiet_left (turned_any v.e 11 (by decide) (by decide) _) | exact quiet_left (turned_any v.e 25 (by decide) (by decide) _)))
          simp only [u32_xor, u32_and, t_mod]
          rw [show v.h + (rot v.e 6 ^^^ rot v.e 11 ^^^ rot v.e 25) + (v.g ^^^ v.e &&& (v.f ^^^ v.g)) + kk + ww = rndT v kk ww from rfl]
          generalize hT : rndT v kk ww = T
          have HT := hide hT
          clear hT
          go_upto_region 15 with (first | (go_at_call 32; refine (turned_any v.a 2 (by decide) (by decide) _).mono ?_; rintro e w5 ⟨rfl, rfl⟩) | (go_at_call 32; refine (turned_any v.a 13 (by decide) (by decide) _).mono ?_; rintro e w5 ⟨rfl, rfl⟩) | (go_at_call 32; refine (turned_any v.a 22 (by decide) (by decide) _).mono ?_; rintro e w5 ⟨rfl, rfl⟩))
          simp only [u32_xor, u32_and, u32_or, m32_add]
          rw [show (rot v.a 2 ^^^ rot v.a 13 ^^^ rot v.a 22) + (v.a &&& v.b ||| v.c &&& (v.a ||| v.b)) = rndU v from rfl]
          generalize hU : rndU v = U
          have HU := hide hU
          clear hU
          go_wp2_with fail
          go_roundw
          case rel => exact ⟨k + 1, by omega, by go_num, by rw [NR.out, rnd, HT.out, HU.out]; exact val_u32 (m32_add _ _), by rw [NR.out]; rfl, by rw [NR.out]; rfl, by rw [NR.out]; rfl, by rw [NR.out, rnd, HT.out]; exact val_u32 (m32_add _ _), by rw [NR.out]; rfl, by rw [NR.out]; rfl, by rw [NR.out]; rfl, hd.more nq⟩
          case measure => simp [intOf]; omega
        · have S4 : Blk wr sb 63 (addC s (rnds (sch m 64) s k) 0) := hd.blk S3
          have b4 := b3.trans (hd.below _)
          have HC := hide (show addC s (rnds (sch m 64) s k) 8 = (comp s m).cs by rw [show k = 64 by omega]; rfl)
          clear S3 W3 b3 hd HIX
          generalize rnds (sch m 64) s k = v at *
          generalize wr = w4 at *
          have o4 : w.grownBy w4 (some sb) := only_of_below b4 _
          clear b4
          go_wp2_with fail
          go_loopw [201] (fun i wq => ∃ k : Nat, k ≤ 8 ∧ i = .int .i64 k ∧ Blk wq sb 63 (addC s v k) ∧ w.grownBy wq (some sb)) (fun i _ => 8 - (intOf i).toNat)
          case atStart => exact ⟨0, by omega, rfl, S4, o4⟩
          case round =>
            clear S4 o4
            obtain ⟨k, hk, rfl, S, o⟩ := hrel
            by_cases hlt : k < 8
            · have ix := wds_index v k hlt
              have c0 : wr.cell? ⟨sb, k, none⟩ = _ := (S.cell k).trans (addC_at s v k hlt)
              have f0 := S.frozen k
              have HS := hide (addC_set s v k hlt)
              generalize s.ws.getD k 0 = x at *
              generalize v.ws.getD k 0 = y at *
              go_wp2_with fail
              refine wp_region_sink 9 (fun wx => Drew wr wx) (by kernel_rfl) (Drew.one (Drew.refl _)) (fun hHeld => ?_)
              refine sink_take (i := 0) (oi := _) (v := ?_) rfl (by kernel_rfl) (by decide) (by kernel_rfl) (by kernel_rfl) (by kernel_rfl) (by kernel_rfl) (fun _ _ _ h => h) (by rfl) (fun wx hSw => ?_) hHeld ?_
              rotate_left
              · have e0 := (hSw.cell _).trans c0; go_simp
                with_reducible rfl
              try simp only [Act.put, List.setIfInBounds_toArray, List.set_cons_zero, List.set_cons_succ]
              refine sink_take (i := 1) (oi := _) (v := ?_) rfl (by kernel_rfl) (by decide) (by kernel_rfl) (by kernel_rfl) (by kernel_rfl) (by kernel_rfl) (fun _ _ _ h => h) (by rfl) (fun wx hSw => ?_) hHeld ?_
              rotate_left
              · have e0 := (hSw.cell _).trans c0; go_simp
                with_reducible rfl
              try simp only [Act.put, List.setIfInBounds_toArray, List.set_cons_zero, List.set_cons_succ]
              refine sink_take (i := 2) (oi := _) (v := ?_) rfl (by kernel_rfl) (by decide) (by kernel_rfl) (by kernel_rfl) (by kernel_rfl) (by kernel_rfl) (fun _ _ _ h => h) (by rfl) (fun wx hSw => ?_) hHeld ?_
              rotate_left
              · have e0 := (hSw.cell _).trans c0; go_simp
                with_reducible rfl
              try simp only [Act.put, List.setIfInBounds_toArray, List.set_cons_zero, List.set_cons_succ]
              refine sink_take (i := 3) (oi := _) (v := ?_) rfl (by kernel_rfl) (by decide) (by kernel_rfl) (by kernel_rfl) (by kernel_rfl) (by kernel_rfl) (fun _ _ _ h => h) (by rfl) (fun wx hSw => ?_) hHeld ?_
              rotate_left
              · have e0 := (hSw.cell _).trans c0; go_simp
                with_reducible rfl
              try simp only [Act.put, List.setIfInBounds_toArray, List.set_cons_zero, List.set_cons_succ]
              refine sink_take (i := 4) (oi := _) (v := ?_) rfl (by kernel_rfl) (by decide) (by kernel_rfl) (by kernel_rfl) (by kernel_rfl) (by kernel_rfl) (fun _ _ _ h => h) (by rfl) (fun wx hSw => ?_) hHeld ?_
              rotate_left
              · have e0 := (hSw.cell _).trans c0; go_simp
                with_reducible rfl
              try simp only [Act.put, List.setIfInBounds_toArray, List.set_cons_zero, List.set_cons_succ]
              refine sink_take (i := 5) (oi := _) (v := ?_) rfl (by kernel_rfl) (by decide) (by kernel_rfl) (by kernel_rfl) (by kernel_rfl) (by kernel_rfl) (fun _ _ _ h => h) (by rfl) (fun wx hSw => ?_) hHeld ?_
              rotate_left
              · have e0 := (hSw.cell _).trans c0; go_simp
                with_reducible rfl
              try simp only [Act.put, List.setIfInBounds_toArray, List.set_cons_zero, List.set_cons_succ]
              refine sink_take (i := 6) (oi := _) (v := ?_) rfl (by kernel_rfl) (by decide) (by kernel_rfl) (by kernel_rfl) (by kernel_rfl) (by kernel_rfl) (fun _ _ _ h => h) (by rfl) (fun wx hSw => ?_) hHeld ?_
              rotate_left
              · have e0 := (hSw.cell _).trans c0; go_simp
                with_reducible rfl
              try simp only [Act.put, List.setIfInBounds_toArray, List.set_cons_zero, List.set_cons_succ]
              refine sink_ready (rs := [7]) (by kernel_rfl) (by simp) (ReadyL.cons (o := _) rfl (fun K hK => ?_) ReadyL.nil)
              go_simp
              refine hK.out _ _ hHeld (fun hHeld => ?_)
              clear hK K
              try simp only [Act.put, List.setIfInBounds_toArray, List.set_cons_zero, List.set_cons_succ]
              refine sink_take (i := 8) (oi := _) (v := ?_) rfl (by kernel_rfl) (by decide) (by kernel_rfl) (by kernel_rfl) (by kernel_rfl) (by kernel_rfl) (fun _ _ _ h => h) (by rfl) (fun wx hSw => ?_) hHeld ?_
              rotate_left
              · go_simp
                with_reducible rfl
              try simp only [Act.put, List.setIfInBounds_toArray, List.set_cons_zero, List.set_cons_succ]
              have f2 := (hHeld.blk S).frozen k
              have g2 := (hHeld.cell _).trans c0
              refine sink_last (by kernel_rfl) rfl (by kernel_rfl) (by kernel_rfl) (fun K hK => ?_)
              go_simp
              refine hK.out _ _ ?_
              clear hK K
              try simp only [Act.put, List.setIfInBounds_toArray, List.set_cons_zero, List.set_cons_succ]
              go_wp2_with fail
              go_roundw
              case rel =>
                have hs2 := (S.set_ k (.int .u32 ((x + y).toNat : Int))).drew
                rw [HS.out] at hs2
                refine ⟨k + 1, by omega, by go_num, blk_val (W := wr.drew) hs2 (m32_add x y), ?_⟩
                exact only_setCell (p := ⟨sb, k, none⟩) (only_drew o) (.inl rfl) _
              case measure => simp [intOf]; omega
            · obtain rfl : k = 8 := by omega
              go_wp2
              go_end0
              exact ⟨rfl, by rw [← HC.out]; exact S, o⟩
end Go.Proofs.YtdkcjmpikmnedaaDoor
