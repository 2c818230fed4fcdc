/- The walks through sha's blocks and key. -/
import Derived.Test.YtdkcjmpikmnedaaDoorShaBlk
namespace Go.Proofs.YtdkcjmpikmnedaaDoor
open Go.RowKit
set_option linter.unusedSimpArgs false

set_option maxRecDepth 100000 in
set_option maxHeartbeats 1600000 in
theorem blocks_any (sb : Nat) (s : Wds) (A : Option Addr) (c : Nat) (l : List B8) (P : Nat → Prop) (w : World) (hs : Blk w sb 63 s.cs) (hK : RksAt w) (hr : Rd w P A (bs l)) (hP : ∀ b, P b → b ≠ sb) (h1 : sb ≠ 1) (hc : l.length ≤ c) (hl : l.length ≤ 281474976710656) :
    Calls Tryd.prog 22 #[.pointer (some ⟨sb, 0, none⟩), .slice A l.length c] w fun e w' => ∃ A' c', e = .returned (.slice A' (left l).length c') ∧ (left l).length ≤ c' ∧ Rd w' P A' (bs (left l)) ∧ Blk w' sb 63 (blks s l).cs ∧ w.grownBy w' (some sb) := by
  go_enter Tryd.func22, Tryd.ntmps22
  go_wp2_with fail
  go_loopw [1] (fun b wq => ∃ (n : Nat) (An : Option Addr) (cn : Nat), 64 * n ≤ l.length ∧ b = .slice An (l.drop (64 * n)).length cn ∧ (l.drop (64 * n)).length ≤ cn ∧ Rd wq P An (bs (l.drop (64 * n))) ∧ Blk wq sb 63 (blkN s l n).cs ∧ w.grownBy wq (some sb)) (fun b _ => match b with | .slice _ n _ => n | _ => 0)
  case atStart => exact ⟨0, A, c, by omega, by simp, by simpa using hc, by simpa using hr, hs, only_refl _ _⟩
  case round =>
    obtain ⟨n, An, cn, hn, rfl, hcn, hrn, S, o⟩ := hrel
    have hK2 : RksAt wr := RowAt.grown hK o (by simpa using fun e => h1 e.symm)
    have hlen : (l.drop (64 * n)).length = l.length - 64 * n := by simp
    generalize hm : l.drop (64 * n) = m at *
    have HM := hide hm
    have HL := hide hlen
    clear hm hlen
    by_cases hlt : 64 ≤ m.length
    · have B := hide (block_any sb (blkN s l n) An cn m wr hlt S hK2 (hrn.imp fun b _ h => hP b h))
      have hge : (64 : Int) ≤ (m.length : Int) := by omega
      have hcu := hrn.cut 64 cn (by simpa using hcn)
      go_wp2_with (go_at_call 28; with_reducible refine Calls.mono B.out ?_; rintro e w5 ⟨rfl, S5, o5⟩)
      go_roundw
      case rel =>
        have hd2 : l.drop (64 * (n + 1)) = m.drop 64 := by rw [← HM.out, List.drop_drop, Nat.mul_add]
        have hs2 : blkN s l (n + 1) = comp (blkN s l n) m := by rw [blkN, HM.out, comp_take]
        have hL := HL.out
        have hcu5 : Rd w5 P (if cn = 64 then An else Option.map (fun x => x.add 64) An) ((bs m).drop 64) := hcu.only o5 fun b hb => by simpa using hP b hb
        refine ⟨n + 1, _, cn - 64, by omega, by rw [hd2, List.length_drop], by rw [hd2, List.length_drop]; omega, ?_, by rw [hs2]; exact S5, only_trans o o5⟩
        rw [hd2, bs_drop]
        obtain ⟨b, off, rfl, _, _⟩ := hrn (by simp; omega)
        simpa [Addr.add_mid] using hcu5
      case measure => simp; omega
    · have hge : ¬ (64 : Int) ≤ (m.length : Int) := by omega
      have e : n = l.length / 64 := by have := HL.out; omega
      have EL := hide (show left l = m by rw [left, ← e]; exact HM.out)
      have ES := hide (show blks s l = blkN s l n by rw [blks, e])
      go_wp2
      go_ret
      have el : (left l).length = m.length := by rw [EL.out]
      exact ⟨An, cn, by rw [el]; rfl, by rw [EL.out]; exact hcn, by rw [EL.out]; exact hrn, by rw [ES.out]; exact S, o⟩

/-- k bytes of a key made. -/
def keyC (s : Wds) (k : Nat) : Array Value := (bs (s.key.take k ++ List.replicate (32 - k) 0#8)).toArray
theorem keyC_new (s : Wds) (k : Nat) (h : k < 32) : (keyC s k)[k]? = some (.int .u8 0) := by
  unfold keyC
  rw [List.getElem?_toArray, bs, List.getElem?_map, List.getElem?_append_right (by rw [List.length_take]; omega), List.length_take, key_length, Nat.min_eq_left (by omega), Nat.sub_self, List.getElem?_replicate, if_pos (by omega)]
  rfl
theorem keyC_set (s : Wds) (k : Nat) (h : k < 32) : (keyC s k).setIfInBounds k (.int .u8 ((s.key.getD k 0).toNat : Int)) = keyC s (k + 1) := by
  have e : List.replicate (32 - k) 0#8 = 0#8 :: List.replicate (32 - (k + 1)) 0#8 := by rw [show 32 - k = (32 - (k + 1)) + 1 by omega, List.replicate_succ]
  have hk : k < s.key.length := by rw [key_length]; exact h
  unfold keyC
  rw [List.setIfInBounds_toArray, e, take_snoc _ _ hk, bs, bs]
  congr 1
  rw [List.append_assoc, List.map_append, List.map_append, List.set_append_right _ _ (by simp [key_length]; omega), List.length_map, List.length_take, Nat.min_eq_left (by omega), Nat.sub_self, List.getD_eq_getElem?_getD, List.getElem?_eq_getElem hk]
  rfl
theorem key_val (x : B32) (n : Nat) : (x.toNat : Int) / 2 ^ n % (256 : Int) = (((x >>> n).setWidth 8).toNat : Int) := by
  rw [m32_shr, BitVec.toNat_setWidth]
  omega
theorem key_get (s : Wds) (k : Nat) (h : k < 32) : s.key.getD k 0 = ((s.ws.getD (k / 4) 0) >>> (24 - k % 4 * 8)).setWidth 8 := by
  simp [Wds.key, h]

theorem stop_load_key {P : Program} {ops : Array Oper} {Q : Exit → Act → World → Prop} {rest : List Oper} {a : Act} {w : World} {d : Option Tmp} {ty : TypeId} {pos : String} {after : Array Edge} {g : Option (Nat × Bool)} {x : Operand}
    (h : Stopped (wpList P ops Q ({ dst := d, op := .load 26 x, type := ty, pos := pos, after := after, guard := g } :: rest) a w)) :
    wpList P ops Q ({ dst := d, op := .load 26 x, type := ty, pos := pos, after := after, guard := g } :: rest) a w := h
theorem keyC_full (s : Wds) : keyC s 32 = (bs s.key).toArray := by
  unfold keyC
  rw [List.take_of_length_le (by rw [key_length]; omega)]
  simp

set_option maxRecDepth 100000 in
set_option maxHeartbeats 1600000 in
theorem key_any (sb : Nat) (s : Wds) (w : World) (hs : Blk w sb 63 s.cs) :
    Calls Tryd.prog 31 #[.pointer (some ⟨sb, 0, none⟩)] w fun e w' => e = .returned (.agg (bs s.key).toArray) ∧ Below w.heap.size w w' := by
  have b0 : Below w.heap.size w (w.alloc (.cells (keyC s 0) 26)) := (Below.refl _ _).alloc (Nat.le_refl _) _
  have hb0 : Blk (w.alloc (.cells (keyC s 0) 26)) w.heap.size 26 (keyC s 0) := Blk.new w _ (keyC s 0)
  have hsb := hs.lt
  go_enter Tryd.func31, Tryd.ntmps31
  go_wp2_with fail
  go_loopw [4] (fun i wr => ∃ k : Nat, k ≤ 32 ∧ i = .int .i64 k ∧ Blk wr w.heap.size 26 (keyC s k) ∧ Below w.heap.size w wr) (fun i _ => 32 - (intOf i).toNat)
  case atStart => exact ⟨0, by omega, rfl, hb0, b0⟩
  case round =>
    clear b0 hb0
    obtain ⟨k, hk, rfl, W, bw⟩ := hrel
    by_cases hlt : k < 32
    · have g0 : wr.cell? ⟨w.heap.size, k, none⟩ = some (.int .u8 0) := (W.cell k).trans (keyC_new s k hlt)
      have f0 := W.frozen k
      have cq : wr.cell? ⟨sb, k / 4, none⟩ = _ := ((hs.below bw hsb).cell (k / 4)).trans (s.cs_at (k / 4) (by omega))
      have KG := hide (key_get s k hlt)
      generalize s.ws.getD (k / 4) 0 = x at *
      go_wp2_with fail
      go_roundw
      case rel =>
        have hs2 := W.set_ k (.int .u8 ((s.key.getD k 0).toNat : Int))
        rw [keyC_set s k hlt, KG.out] at hs2
        rw [key_val x]
        exact ⟨k + 1, by omega, by go_num, hs2, bw.setCell (p := ⟨w.heap.size, k, none⟩) (Nat.le_refl _) _⟩
      case measure => simp [intOf]; omega
    · obtain e : k = 32 := by omega
      have W2 : Blk wr w.heap.size 26 (bs s.key).toArray := by rw [← keyC_full, ← e]; exact W
      clear W e
      go_wp2_with (with_reducible refine stop_load_key ?_)
      refine wpList_load_row rfl _ _ rfl w.heap.size rfl _ _ _ _ W2 Tryd.underlying26 rfl (by rw [List.size_toArray, bs, List.length_map, key_length]; kernel_rfl) ?_
      refine wpList_store_row rfl _ _ _ rfl w.heap.size _ rfl rfl _ _ W2 (by rw [List.size_toArray, bs, List.length_map, key_length]; kernel_rfl) rfl ?_ ?_
      · exact all_oneCell_toArray (bs_one _)
      · rw [setRow_self wr _ _ _ _ W2]
        go_wp2
        refine bodyPost_ret (v := .agg (bs s.key).toArray) ?_ rfl ⟨rfl, bw⟩
        exact results_cell_row rfl _ _ w.heap.size _ _ _ _ rfl W2 Tryd.underlying26 rfl (by rw [List.size_toArray, bs, List.length_map, key_length]; kernel_rfl)
end Go.Proofs.YtdkcjmpikmnedaaDoor
