/- The walk through sha's Write. -/
import Derived.Test.YtdkcjmpikmnedaaDoorShaNone
import Derived.Deep.MidRow
namespace Go.Proofs.YtdkcjmpikmnedaaDoor
open Go.RowKit
set_option linter.unusedSimpArgs false

/-! ### What a call leaves: only blocks of which K holds, and what is new, may have turned. -/
structure Chg (K : Nat → Prop) (w w' : World) : Prop where
  os : w'.os = w.os
  tape : w'.tape = w.tape
  output : w'.output = w.output
  size : w.heap.size ≤ w'.heap.size
  block : ∀ b, b < w.heap.size → ¬ K b → w'.heap[b]? = w.heap[b]?
section
variable {w w' w'' : World} {K : Nat → Prop}
theorem Chg.refl (K : Nat → Prop) (w : World) : Chg K w w := ⟨rfl, rfl, rfl, Nat.le_refl _, fun _ _ _ => rfl⟩
theorem Chg.trans (h : Chg K w w') (k : Chg K w' w'') : Chg K w w'' :=
  ⟨k.os.trans h.os, k.tape.trans h.tape, k.output.trans h.output, Nat.le_trans h.size k.size, fun b hb hn => (k.block b (Nat.lt_of_lt_of_le hb h.size) hn).trans (h.block b hb hn)⟩
/-- What turned in the second part may be new since the first. -/
theorem Chg.trans' {K' : Nat → Prop} (h : Chg K w w') (k : Chg K' w' w'') (hK : ∀ b, b < w.heap.size → K' b → K b) : Chg K w w'' :=
  ⟨k.os.trans h.os, k.tape.trans h.tape, k.output.trans h.output, Nat.le_trans h.size k.size, fun b hb hn => (k.block b (Nat.lt_of_lt_of_le hb h.size) fun e => hn (hK b hb e)).trans (h.block b hb hn)⟩
theorem Chg.imp {K' : Nat → Prop} (h : Chg K w w') (hK : ∀ b, b < w.heap.size → K b → K' b) : Chg K' w w' :=
  ⟨h.os, h.tape, h.output, h.size, fun b hb hn => h.block b hb fun e => hn (hK b hb e)⟩
theorem Chg.drewN (h : Chg K w w') (n : Nat) : Chg K w (w'.drewN n) := ⟨h.os, h.tape, h.output, h.size, h.block⟩
theorem Chg.drew (h : Chg K w w') : Chg K w w'.drew := ⟨h.os, h.tape, h.output, h.size, h.block⟩
theorem Chg.of_grown {row : Option Nat} (h : w.grownBy w' row) (hK : ∀ b, b < w.heap.size → some b = row → K b) : Chg K w w' :=
  ⟨h.os, h.tape, h.output, h.size, fun b hb hn => h.block b hb fun e => hn (hK b hb e)⟩
theorem Chg.of_below {B : Nat} (h : Below B w w') (hK : ∀ b, b < w.heap.size → B ≤ b → K b) : Chg K w w' :=
  ⟨h.os, h.tape, h.output, h.size, fun b hb hn => h.block b (by
    rcases Nat.lt_or_ge b B with hlt | hge
    · exact hlt
    · exact absurd (hK b hb hge) hn)⟩
theorem Chg.below {B : Nat} (h : Chg K w w') (hB : B ≤ w.heap.size) (hK : ∀ b, b < B → ¬ K b) : Below B w w' := ⟨h.os, h.tape, h.output, h.size, fun b hb => h.block b (by omega) (hK b hb)⟩
theorem Chg.alloc (h : Chg K w w') (o : Obj) : Chg K w (w'.alloc o) :=
  h.trans (Chg.of_below ((Below.refl w'.heap.size w').alloc (Nat.le_refl _) o) fun b hb hge => by omega)
theorem Chg.setCell (h : Chg K w w') {p : Addr} (hp : p.block < w.heap.size → K p.block) (u : Value) : Chg K w (w'.setCell p u) :=
  h.trans' (Chg.of_grown (K := fun b => b = p.block) (only_setCell (only_refl w' (some p.block)) (.inl rfl) u) fun b _ e => by injection e) fun b hb e => by subst e; exact hp hb
theorem Chg.blk {g : Nat} {t : TypeId} {cs : Array Value} (h : Chg K w w') (hb : Blk w g t cs) (hg : ¬ K g) : Blk w' g t cs := (h.block g hb.lt hg).trans hb
theorem Chg.rd {P : Nat → Prop} {A : Option Addr} {xs : List Value} (h : Chg K w w') (hr : Rd w P A xs) (hP : ∀ b, P b → ¬ K b) : Rd w' P A xs := hr.keep fun b hb hPb => h.block b hb (hP b hPb)
theorem Chg.own {base : Nat} {v : Value} {l : List B8} (h : Chg K w w') (ho : OwnB w base v l) (hv : ∀ g, v.ownBlock = some g → ¬ K g) : OwnB w' base v l := by
  refine ⟨ho.1, ?_⟩
  rcases ho.2 with h' | ⟨g, cap, cur, rfl, hg, hh, r⟩
  · exact .inl h'
  · exact .inr ⟨g, cap, cur, rfl, hg, (h.block g (Array.getElem?_eq_some_iff.1 hh).1 (hv g rfl)).trans hh, r⟩
end

/-! ### A Hash's cells -/
section
variable (sb : Nat) (v : Value) (n dn st : Int) (td : Bool) (k : List B8)
theorem hashC_n (n' : Int) : (hashC sb v n dn st td k).setIfInBounds 2 (.int .u64 n') = hashC sb v n' dn st td k := by unfold hashC; rw [List.setIfInBounds_toArray]; rfl
theorem hashC_v (v' : Value) : (hashC sb v n dn st td k).setIfInBounds 1 v' = hashC sb v' n dn st td k := by unfold hashC; rw [List.setIfInBounds_toArray]; rfl
theorem hashC_told (td' : Bool) : (hashC sb v n dn st td k).setIfInBounds 6 (.bool td') = hashC sb v n dn st td' k := by unfold hashC; rw [List.setIfInBounds_toArray]; rfl
theorem hashC_dn (dn' : Int) : (hashC sb v n dn st td k).setIfInBounds 3 (.int .u32 dn') = hashC sb v n dn' st td k := by unfold hashC; rw [List.setIfInBounds_toArray]; rfl
theorem hashC_st (st' : Int) : (hashC sb v n dn st td k).setIfInBounds 4 (.int .i32 st') = hashC sb v n dn st' td k := by unfold hashC; rw [List.setIfInBounds_toArray]; rfl
end
section
variable {w : World} {H sb : Nat} {v : Value} {n dn st : Int} {td : Bool} {k : List B8}
theorem hash0 (h : Blk w H 48 (hashC sb v n dn st td k)) : w.cell? ⟨H, 0, none⟩ = some (.pointer (some ⟨sb, 0, none⟩)) := h.cell 0
theorem hash1 (h : Blk w H 48 (hashC sb v n dn st td k)) : w.cell? ⟨H, 1, none⟩ = some v := h.cell 1
theorem hash2 (h : Blk w H 48 (hashC sb v n dn st td k)) : w.cell? ⟨H, 2, none⟩ = some (.int .u64 n) := h.cell 2
theorem hash3 (h : Blk w H 48 (hashC sb v n dn st td k)) : w.cell? ⟨H, 3, none⟩ = some (.int .u32 dn) := h.cell 3
theorem hash4 (h : Blk w H 48 (hashC sb v n dn st td k)) : w.cell? ⟨H, 4, none⟩ = some (.int .i32 st) := h.cell 4
theorem hash6 (h : Blk w H 48 (hashC sb v n dn st td k)) : w.cell? ⟨H, 6, none⟩ = some (.bool td) := h.cell 6
end
/-- No key yet. -/
abbrev nokey : List B8 := List.replicate 32 0#8
/-- A hash of t, not told. -/
structure IsH (w : World) (H S : Nat) (v : Value) (t : List B8) : Prop where
  hash : Blk w H 48 (hashC S v t.length 0 0 false nokey)
  state : Blk w S 63 (blks wFirst t).cs
  own : OwnB w (H + 1) v (left t)
  lt : S < H
  one : 1 < S

theorem write_told (H S : Nat) (v : Value) (n dn st : Int) (k : List B8) (x : Value) (w : World) (hH : Blk w H 48 (hashC S v n dn st true k)) :
    Calls Tryd.prog 14 #[.pointer (some ⟨H, 0, none⟩), x] w fun e w' => e = .returned (.int .i64 8) ∧ w = w' := by
  have h0 := hash0 hH
  have h6 := hash6 hH
  go_enter Tryd.func14, Tryd.ntmps14
  go_wp2
  go_ret
  exact ⟨rfl, rfl⟩

set_option maxRecDepth 100000 in
set_option maxHeartbeats 1600000 in
theorem write_any (H S : Nat) (v : Value) (t m : List B8) (A : Option Addr) (c : Nat) (P : Nat → Prop) (w : World) (h : IsH w H S v t) (hK : RksAt w) (hr : Rd w P A (bs m)) (hP : ∀ b, P b → b ≠ H ∧ b ≠ S ∧ some b ≠ v.ownBlock) (hb : t.length + m.length ≤ 1099511627776) :
    Calls Tryd.prog 14 #[.pointer (some ⟨H, 0, none⟩), .slice A m.length c] w fun e w' => e = .returned (.int .i64 0) ∧ ∃ v', IsH w' H S v' (t ++ m) ∧ OwnB w' w.heap.size v' (left (t ++ m)) ∧ Chg (fun b => b = H ∨ b = S ∨ some b = v.ownBlock) w w' := by
  obtain ⟨hH, hS, ho, hlt, h1⟩ := h
  have h0 := hash0 hH
  have h2 := hash2 hH
  have h6 := hash6 hH
  have f2 := hH.frozen 2
  have h1c := hash1 hH
  have f1 := hH.frozen 1
  have hSl := hS.lt
  have hHl := hH.lt
  go_enter Tryd.func14, Tryd.ntmps14
  go_wp2_with (with_reducible refine stop_append ?_)
  unfold Stopped
  have hH1 := hH.set_ 2 (.int .u64 ((t.length : Int) + (m.length : Int)))
  rw [hashC_n] at hH1
  have g1 : Chg (fun b => b = H ∨ b = S ∨ some b = v.ownBlock) w (w.setCell ⟨H, 2, none⟩ (.int .u64 ((t.length : Int) + (m.length : Int)))) := (Chg.refl _ w).setCell (fun _ => .inl rfl) _
  have nv : ∀ b, b ≤ H → some b ≠ v.ownBlock := fun b hb e => by have := (ho.lt b e.symm).1; omega
  have hS1 := hS.far (p := ⟨H, 2, none⟩) (by simp; omega) (.int .u64 ((t.length : Int) + (m.length : Int)))
  have hK1 := RowAt.far hK (p := ⟨H, 2, none⟩) (by simp; omega) (.int .u64 ((t.length : Int) + (m.length : Int)))
  have ho1 := ho.kept (only_setCell (only_refl w (some H)) (p := ⟨H, 2, none⟩) (.inl rfl) (.int .u64 ((t.length : Int) + (m.length : Int)))) (.inr fun e => nv H (Nat.le_refl _) e.symm)
  have hr1 : Rd (w.setCell ⟨H, 2, none⟩ (.int .u64 ((t.length : Int) + (m.length : Int)))) P A (bs m) := hr.only (only_setCell (only_refl w (some H)) (p := ⟨H, 2, none⟩) (.inl rfl) _) fun b hb e => (hP b hb).1 (by injection e)
  have hsz : (w.setCell ⟨H, 2, none⟩ (.int .u64 ((t.length : Int) + (m.length : Int)))).heap.size = w.heap.size := by simp [World.setCell]
  have hll := left_length t
  generalize w.setCell ⟨H, 2, none⟩ (.int .u64 ((t.length : Int) + (m.length : Int))) = w1 at *
  refine wpList_append_u8 rfl _ _ rfl (H + 1) v (left t) rfl ho1 P A m.length c m rfl rfl hr1 (by omega) (by omega) ?_
  intro v2 w2 ho2 gr2 hv2
  have hH2 := hH1.grown gr2 (nv H (Nat.le_refl _))
  have hS2 := hS1.grown gr2 (nv S (by omega))
  have hK2 := RowAt.grown hK1 gr2 (nv 1 (by omega))
  have g2 := g1.trans (Chg.of_grown (K := fun b => b = H ∨ b = S ∨ some b = v.ownBlock) gr2 fun b _ e => .inr (.inr e))
  clear hr hr1 hH hH1 hS hS1 hK hK1 h0 h1c h2 h6 f1 f2 gr2
  obtain ⟨l2, El2⟩ : ∃ x, x = left t ++ m := ⟨_, rfl⟩
  rw [← El2] at ho2
  have LL := hide El2
  have hl2 : l2.length < 64 + m.length := by rw [El2, List.length_append, hll]; omega
  clear El2 hll
  obtain ⟨A2, c2, rfl, hc2⟩ := ho2.form
  have e0 := hash0 hH2
  have e1 := hash1 hH2
  have q1 := hH2.frozen 1
  have hH3 := hH2.set_ 1 (.slice A2 l2.length c2)
  rw [hashC_v] at hH3
  have hS3 := hS2.far (p := ⟨H, 1, none⟩) (by simp; omega) (.slice A2 l2.length c2)
  have hK3 : RksAt _ := RowAt.far hK2 (p := ⟨H, 1, none⟩) (by simp; omega) (.slice A2 l2.length c2)
  have nv2 : ∀ b, b ≤ H → some b ≠ (Value.slice A2 l2.length c2).ownBlock := fun b hb e => by have := (ho2.lt b e.symm).1; omega
  have ho3 := ho2.kept (only_setCell (only_refl w2 (some H)) (p := ⟨H, 1, none⟩) (.inl rfl) (.slice A2 l2.length c2)) (.inr fun e => nv2 H (Nat.le_refl _) e.symm)
  have g3 := g2.setCell (p := ⟨H, 1, none⟩) (fun _ => .inl rfl) (.slice A2 l2.length c2)
  have wr : IntKind.u64.wrap ((t.length : Int) + (m.length : Int)) = (t.length : Int) + (m.length : Int) := by rw [IntKind.wrap_u64]; omega
  go_wp2_with (with_reducible refine stop_append ?_)
  generalize w2.setCell ⟨H, 1, none⟩ (.slice A2 l2.length c2) = w3 at *
  clear e0 e1 q1 hH2 hS2 hK2 ho2 g2
  have rd3 : Rd w3 (· ≠ S) A2 (bs l2) := ho3.rd fun g hg _ _ => by omega
  refine wp_region_sink 14 (fun wx => Blk wx H 48 (hashC S (.slice A2 l2.length c2) ((t.length : Int) + (m.length : Int)) 0 0 false nokey)) (by kernel_rfl) hH3.drew (fun hHeld => ?_)
  refine sink_take (i := 0) (oi := _) (v := ?_) rfl (by kernel_rfl) (by decide) (by kernel_rfl) (by kernel_rfl) (by kernel_rfl) (by kernel_rfl) (fun _ _ _ h => h) (by rfl) (fun wx hSw => ?_) hHeld ?_
  rotate_left
  · have e0 := hash0 hSw; have e1 := hash1 hSw; go_simp
    with_reducible rfl
  try simp only [Act.put, List.setIfInBounds_toArray, List.set_cons_zero, List.set_cons_succ]
  refine sink_take (i := 2) (oi := _) (v := ?_) rfl (by kernel_rfl) (by decide) (by kernel_rfl) (by kernel_rfl) (by kernel_rfl) (by kernel_rfl) (fun _ _ _ h => h) (by rfl) (fun wx hSw => ?_) hHeld ?_
  rotate_left
  · have e0 := hash0 hSw; have e1 := hash1 hSw; go_simp
    with_reducible rfl
  try simp only [Act.put, List.setIfInBounds_toArray, List.set_cons_zero, List.set_cons_succ]
  refine sink_take (i := 3) (oi := _) (v := ?_) rfl (by kernel_rfl) (by decide) (by kernel_rfl) (by kernel_rfl) (by kernel_rfl) (by kernel_rfl) (fun _ _ _ h => h) (by rfl) (fun wx hSw => ?_) hHeld ?_
  rotate_left
  · have e0 := hash0 hSw; have e1 := hash1 hSw; go_simp
    with_reducible rfl
  try simp only [Act.put, List.setIfInBounds_toArray, List.set_cons_zero, List.set_cons_succ]
  refine sink_take (i := 4) (oi := _) (v := ?_) rfl (by kernel_rfl) (by decide) (by kernel_rfl) (by kernel_rfl) (by kernel_rfl) (by kernel_rfl) (fun _ _ _ h => h) (by rfl) (fun wx hSw => ?_) hHeld ?_
  rotate_left
  · have e0 := hash0 hSw; have e1 := hash1 hSw; go_simp
    with_reducible rfl
  try simp only [Act.put, List.setIfInBounds_toArray, List.set_cons_zero, List.set_cons_succ]
  refine sink_take (i := 5) (oi := _) (v := ?_) rfl (by kernel_rfl) (by decide) (by kernel_rfl) (by kernel_rfl) (by kernel_rfl) (by kernel_rfl) (fun _ _ _ h => h) (by rfl) (fun wx hSw => ?_) hHeld ?_
  rotate_left
  · have e0 := hash0 hSw; have e1 := hash1 hSw; go_simp
    with_reducible rfl
  try simp only [Act.put, List.setIfInBounds_toArray, List.set_cons_zero, List.set_cons_succ]
  refine sink_take (i := 6) (oi := _) (v := ?_) rfl (by kernel_rfl) (by decide) (by kernel_rfl) (by kernel_rfl) (by kernel_rfl) (by kernel_rfl) (fun _ _ _ h => h) (by rfl) (fun wx hSw => ?_) hHeld ?_
  rotate_left
  · have e0 := hash0 hSw; have e1 := hash1 hSw; go_simp
    with_reducible rfl
  try simp only [Act.put, List.setIfInBounds_toArray, List.set_cons_zero, List.set_cons_succ]
  refine sink_take (i := 7) (oi := _) (v := ?_) rfl (by kernel_rfl) (by decide) (by kernel_rfl) (by kernel_rfl) (by kernel_rfl) (by kernel_rfl) (fun _ _ _ h => h) (by rfl) (fun wx hSw => ?_) hHeld ?_
  rotate_left
  · have e0 := hash0 hSw; have e1 := hash1 hSw; go_simp
    with_reducible rfl
  try simp only [Act.put, List.setIfInBounds_toArray, List.set_cons_zero, List.set_cons_succ]
  refine sink_take (i := 8) (oi := _) (v := ?_) rfl (by kernel_rfl) (by decide) (by kernel_rfl) (by kernel_rfl) (by kernel_rfl) (by kernel_rfl) (fun _ _ _ h => h) (by rfl) (fun wx hSw => ?_) hHeld ?_
  rotate_left
  · have e0 := hash0 hSw; have e1 := hash1 hSw; go_simp
    with_reducible rfl
  try simp only [Act.put, List.setIfInBounds_toArray, List.set_cons_zero, List.set_cons_succ]
  refine sink_take (i := 9) (oi := _) (v := ?_) rfl (by kernel_rfl) (by decide) (by kernel_rfl) (by kernel_rfl) (by kernel_rfl) (by kernel_rfl) (fun _ _ _ h => h) (by rfl) (fun wx hSw => ?_) hHeld ?_
  rotate_left
  · have e0 := hash0 hSw; have e1 := hash1 hSw; go_simp
    with_reducible rfl
  try simp only [Act.put, List.setIfInBounds_toArray, List.set_cons_zero, List.set_cons_succ]
  refine sink_ready (rs := [1, 10]) (by kernel_rfl) (by simp) (ReadyL.cons (o := _) rfl (fun K hK => ?_) (ReadyL.cons (o := _) rfl (fun K hK => ?_) ReadyL.nil))
  · go_simp
    refine hK.out _ _ (hH3.drew.alloc _) (fun hHeld => ?_)
    clear hK K
    try simp only [Act.put, List.setIfInBounds_toArray, List.set_cons_zero, List.set_cons_succ]
    have nw := Blk.new w3.drew 5 #[]
    have hS4 := hS3.drew.alloc (.cells #[] 5)
    have hK4 : RksAt (w3.drew.alloc (.cells #[] 5)) := RowAt.alloc hK3 _
    have rd4 : Rd (w3.drew.alloc (.cells #[] 5)) (fun b => b ≠ S ∧ b < w3.heap.size) A2 (bs l2) := rd3.drew.old ((Below.refl _ _).alloc (Nat.le_refl _) _)
    have g4 := g3.drew.alloc (.cells #[] 5)
    have nn : S < w3.heap.size := hS3.lt
    refine sink_ready (rs := [10]) (by kernel_rfl) (by simp) (ReadyL.cons (o := _) rfl (fun K hK => ?_) ReadyL.nil)
    go_simp; refine (blocks_any S (blks wFirst t) A2 c2 l2 _ _ hS4 hK4 rd4 (fun _ h => h.1) (by omega) hc2 (by omega)).mono ?_; rintro e w5 ⟨A5, c5, rfl, hc5, rd5, hS5, gr5⟩; dsimp only
    refine hK.out _ _ (hHeld.grown gr5 (by simp; omega)) (fun hHeld => ?_)
    clear hK K
    try simp only [Act.put, List.setIfInBounds_toArray, List.set_cons_zero, List.set_cons_succ]
    have hll6 : (left l2).length ≤ l2.length := by rw [left_length]; omega
    have hS7 := hS5
    have rd6 := rd5
    have g6 := g4.trans' (Chg.of_grown (K := fun b => b = H ∨ b = S ∨ some b = v.ownBlock) gr5 fun b _ e => .inr (.inl (by injection e))) fun _ _ e => e
    have BB : Blk w5 w3.heap.size 5 (bs []).toArray := nw.grown gr5 (by simp; omega)
    have ow5 : OwnB w5 w.heap.size (.slice (some ⟨w3.heap.size, 0, none⟩) 0 0) [] := (RowB.of_blk (l := []) BB (by simp [maxLen])).own (by have := g3.size; simp; omega)
    have nG : ∀ b, b < w3.heap.size → some b ≠ (Value.slice (some ⟨w3.heap.size, 0, none⟩) 0 0).ownBlock := fun b hb e => by injection e with e; simp at e; omega
    have hHl3 : H < w3.heap.size := hH3.lt
    have hSl3 : S < w3.heap.size := hS3.lt
    refine sink_ready (rs := [11]) (by kernel_rfl) (by simp) (ReadyL.cons (o := _) rfl (fun K hK => ?_) ReadyL.nil)
    refine step_append_u8 (by rfl) _ _ (by rfl) w.heap.size (.slice (some ⟨w3.heap.size, 0, none⟩) 0 0) [] (by rfl) ow5 _ A5 (left l2).length c5 (left l2) (by rfl) rfl rd6 (by simp; omega) (by have := g6.size; omega) ?_; intro v6 w6 ow6 gr6 hx6
    refine hK.out _ _ (hHeld.grown gr6 (nG H hHl3)) (fun hHeld => ?_)
    clear hK K
    try simp only [Act.put, List.setIfInBounds_toArray, List.set_cons_zero, List.set_cons_succ]
    refine sink_ready (rs := [12]) (by kernel_rfl) (by simp) (ReadyL.cons (o := _) rfl (fun K hK => ?_) ReadyL.nil)
    go_simp
    refine hK.out _ _ hHeld (fun hHeld => ?_)
    clear hK K
    try simp only [Act.put, List.setIfInBounds_toArray, List.set_cons_zero, List.set_cons_succ]
    refine sink_take (i := 13) (oi := _) (v := ?_) rfl (by kernel_rfl) (by decide) (by kernel_rfl) (by kernel_rfl) (by kernel_rfl) (by kernel_rfl) (fun _ _ _ h => h) (by rfl) (fun wx hSw => ?_) hHeld ?_
    rotate_left
    · go_simp
      with_reducible rfl
    try simp only [Act.put, List.setIfInBounds_toArray, List.set_cons_zero, List.set_cons_succ]
    have hS6 := hS7.grown gr6 (nG S hSl3)
    have hH6 := hHeld
    have q1 := hash1 hH6
    have p1 := hH6.frozen 1
    rw [List.nil_append] at ow6
    obtain ⟨A6, c6, rfl, hc6⟩ := ow6.form
    have g8 := g6.trans' (Chg.of_grown (K := fun b => w3.heap.size ≤ b) gr6 fun b _ e => Nat.le_of_not_lt fun h => nG b h e) fun b hb hx => by have := g3.size; omega
    have hn6 : ∀ b, b < w.heap.size → some b ≠ (Value.slice A6 (left l2).length c6).ownBlock := fun b hb e => by have := (ow6.lt b e.symm).1; omega
    refine sink_last (by kernel_rfl) rfl (by kernel_rfl) (by kernel_rfl) (fun K hK => ?_)
    go_simp
    refine hK.out _ _ ?_
    clear hK K
    try simp only [Act.put, List.setIfInBounds_toArray, List.set_cons_zero, List.set_cons_succ]
    go_wp2
    go_ret
    have El := LL.out
    have e2 : left l2 = left (t ++ m) := by rw [El, left_append]
    have e3 : blks (blks wFirst t) l2 = blks wFirst (t ++ m) := by rw [El, blks_append]
    have hH9 := hH6.set_ 1 (.slice A6 (left l2).length c6)
    rw [hashC_v] at hH9
    have ow9 := ow6.kept (only_setCell (only_refl w6 (some H)) (p := ⟨H, 1, none⟩) (.inl rfl) (.slice A6 (left l2).length c6)) (.inr fun e => hn6 H hHl e.symm)
    have hS9 := hS6.far (p := ⟨H, 1, none⟩) (by simp; omega) (.slice A6 (left l2).length c6)
    have g9 := g8.setCell (p := ⟨H, 1, none⟩) (fun _ => .inl rfl) (.slice A6 (left l2).length c6)
    rw [e3, e2] at hS9
    rw [e2] at hH9 ow9 g9
    rw [e2]
    refine ⟨rfl, .slice A6 (left (t ++ m)).length c6, ⟨?_, hS9, ?_, hlt, h1⟩, ow9, g9⟩
    · rw [show ((t ++ m).length : Int) = (t.length : Int) + (m.length : Int) by rw [List.length_append, Int.natCast_add]]
      exact hH9
    · exact ⟨ow9.1, ow9.2.imp id fun ⟨g, cap, cur, hv, hg, r⟩ => ⟨g, cap, cur, hv, by omega, r⟩⟩
  · go_simp
    refine (blocks_any S (blks wFirst t) A2 c2 l2 (· ≠ S) w3.drew hS3.drew hK3 rd3.drew (fun _ h => h) (by omega) hc2 (by omega)).mono ?_
    rintro e w5 ⟨A5, c5, rfl, hc5, rd5, hS5, gr5⟩
    dsimp only
    refine hK.out _ _ (hHeld.grown gr5 (by simp; omega)) (fun hHeld => ?_)
    clear hK K
    try simp only [Act.put, List.setIfInBounds_toArray, List.set_cons_zero, List.set_cons_succ]
    refine sink_ready (rs := [1]) (by kernel_rfl) (by simp) (ReadyL.cons (o := _) rfl (fun K hK => ?_) ReadyL.nil)
    go_simp
    refine hK.out _ _ (hHeld.alloc _) (fun hHeld => ?_)
    clear hK K
    try simp only [Act.put, List.setIfInBounds_toArray, List.set_cons_zero, List.set_cons_succ]
    have hll6 : (left l2).length ≤ l2.length := by rw [left_length]; omega
    have hS7 := hS5.alloc (.cells #[] 5)
    have rd6 : Rd (w5.alloc (.cells #[] 5)) _ A5 (bs (left l2)) := rd5.old ((Below.refl _ _).alloc (Nat.le_refl _) _)
    have g6 := (g3.drew.trans' (Chg.of_grown (K := fun b => b = H ∨ b = S ∨ some b = v.ownBlock) gr5 fun b _ e => .inr (.inl (by injection e))) fun _ _ e => e).alloc (.cells #[] 5)
    have BB : Blk (w5.alloc (.cells #[] 5)) w5.heap.size 5 (bs []).toArray := Blk.new w5 5 #[]
    have hsz5 : w3.heap.size ≤ w5.heap.size := gr5.size
    have ow5 : OwnB (w5.alloc (.cells #[] 5)) w.heap.size (.slice (some ⟨w5.heap.size, 0, none⟩) 0 0) [] := (RowB.of_blk (l := []) BB (by simp [maxLen])).own (by have := g3.size; simp; omega)
    have nG : ∀ b, b < w3.heap.size → some b ≠ (Value.slice (some ⟨w5.heap.size, 0, none⟩) 0 0).ownBlock := fun b hb e => by injection e with e; simp at e; omega
    have hHl3 : H < w3.heap.size := hH3.lt
    have hSl3 : S < w3.heap.size := hS3.lt
    refine sink_ready (rs := [11]) (by kernel_rfl) (by simp) (ReadyL.cons (o := _) rfl (fun K hK => ?_) ReadyL.nil)
    refine step_append_u8 (by rfl) _ _ (by rfl) w.heap.size (.slice (some ⟨w5.heap.size, 0, none⟩) 0 0) [] (by rfl) ow5 _ A5 (left l2).length c5 (left l2) (by rfl) rfl rd6 (by simp; omega) (by have := g6.size; omega) ?_; intro v6 w6 ow6 gr6 hx6
    refine hK.out _ _ (hHeld.grown gr6 (nG H hHl3)) (fun hHeld => ?_)
    clear hK K
    try simp only [Act.put, List.setIfInBounds_toArray, List.set_cons_zero, List.set_cons_succ]
    refine sink_ready (rs := [12]) (by kernel_rfl) (by simp) (ReadyL.cons (o := _) rfl (fun K hK => ?_) ReadyL.nil)
    go_simp
    refine hK.out _ _ hHeld (fun hHeld => ?_)
    clear hK K
    try simp only [Act.put, List.setIfInBounds_toArray, List.set_cons_zero, List.set_cons_succ]
    refine sink_take (i := 13) (oi := _) (v := ?_) rfl (by kernel_rfl) (by decide) (by kernel_rfl) (by kernel_rfl) (by kernel_rfl) (by kernel_rfl) (fun _ _ _ h => h) (by rfl) (fun wx hSw => ?_) hHeld ?_
    rotate_left
    · go_simp
      with_reducible rfl
    try simp only [Act.put, List.setIfInBounds_toArray, List.set_cons_zero, List.set_cons_succ]
    have hS6 := hS7.grown gr6 (nG S hSl3)
    have hH6 := hHeld
    have q1 := hash1 hH6
    have p1 := hH6.frozen 1
    rw [List.nil_append] at ow6
    obtain ⟨A6, c6, rfl, hc6⟩ := ow6.form
    have g8 := g6.trans' (Chg.of_grown (K := fun b => w3.heap.size ≤ b) gr6 fun b _ e => Nat.le_of_not_lt fun h => nG b h e) fun b hb hx => by have := g3.size; omega
    have hn6 : ∀ b, b < w.heap.size → some b ≠ (Value.slice A6 (left l2).length c6).ownBlock := fun b hb e => by have := (ow6.lt b e.symm).1; omega
    refine sink_last (by kernel_rfl) rfl (by kernel_rfl) (by kernel_rfl) (fun K hK => ?_)
    go_simp
    refine hK.out _ _ ?_
    clear hK K
    try simp only [Act.put, List.setIfInBounds_toArray, List.set_cons_zero, List.set_cons_succ]
    go_wp2
    go_ret
    have El := LL.out
    have e2 : left l2 = left (t ++ m) := by rw [El, left_append]
    have e3 : blks (blks wFirst t) l2 = blks wFirst (t ++ m) := by rw [El, blks_append]
    have hH9 := hH6.set_ 1 (.slice A6 (left l2).length c6)
    rw [hashC_v] at hH9
    have ow9 := ow6.kept (only_setCell (only_refl w6 (some H)) (p := ⟨H, 1, none⟩) (.inl rfl) (.slice A6 (left l2).length c6)) (.inr fun e => hn6 H hHl e.symm)
    have hS9 := hS6.far (p := ⟨H, 1, none⟩) (by simp; omega) (.slice A6 (left l2).length c6)
    have g9 := g8.setCell (p := ⟨H, 1, none⟩) (fun _ => .inl rfl) (.slice A6 (left l2).length c6)
    rw [e3, e2] at hS9
    rw [e2] at hH9 ow9 g9
    rw [e2]
    refine ⟨rfl, .slice A6 (left (t ++ m)).length c6, ⟨?_, hS9, ?_, hlt, h1⟩, ow9, g9⟩
    · rw [show ((t ++ m).length : Int) = (t.length : Int) + (m.length : Int) by rw [List.length_append, Int.natCast_add]]
      exact hH9
    · exact ⟨ow9.1, ow9.2.imp id fun ⟨g, cap, cur, hv, hg, r⟩ => ⟨g, cap, cur, hv, by omega, r⟩⟩
end Go.Proofs.YtdkcjmpikmnedaaDoor
