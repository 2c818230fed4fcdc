/- The walk through peatbankkit's ApartBytes. -/
import Derived.Test.YtdkcjmpikmnedaaGreatApartB
namespace Go.Proofs.YtdkcjmpikmnedaaGreat
open Go.RowKit
set_option linter.unusedSimpArgs false

set_option maxRecDepth 100000 in
set_option maxHeartbeats 1600000 in
theorem apartBytes_any (sb n cp : Nat) (v : Nat → Value) (L : Nat → List B8) (w : World) (hc : ∀ k, k < n → w.cell? ⟨sb, k, none⟩ = some (v k)) (ap : ∀ j k b, j < n → k < n → (v j).ownBlock = some b → (v k).ownBlock = some b → j = k) (hn : 0 < n) (hn2 : n ≤ 100) (ho : ∀ j, j < n → OwnB w 0 (v j) (L j)) (hl : ∀ j, j < n → (L j).length ≤ 100000) :
    Calls Tryz.prog 18 #[.slice (some ⟨sb, 0, none⟩) n cp] w fun e w' => e = .returned (.bool true) ∧ Chg (VK n v) w w' := by
  have hsb : sb < w.heap.size := World.block_lt_of_cell? w _ (hc 0 hn)
  have B1 := Blk.new w 106 (bagC (.slice none 0 0))
  have b1 : Below w.heap.size w (w.alloc (.cells (bagC (.slice none 0 0)) 106)) := (Below.refl _ _).alloc (Nat.le_refl _) _
  have o1 : (w.alloc (.cells (bagC (.slice none 0 0)) 106)).ownsRow (w.heap.size + 1) 30 1 (.slice none 0 0) 0 ((List.range 0).map v) := World.ownsRow_nil _ _ _ _
  go_enter Tryz.func18, Tryz.ntmps18
  go_wp2_with fail
  go_loopw [4] (fun i wr => ∃ (k : Nat) (bv : Value), k ≤ n ∧ i = .int .i64 k ∧ Blk wr w.heap.size 106 (bagC bv) ∧ wr.ownsRow (w.heap.size + 1) 30 1 bv k ((List.range k).map v) ∧ Below w.heap.size w wr) (fun i _ => n - (intOf i).toNat)
  case atStart => exact ⟨0, _, by omega, rfl, B1, o1, b1⟩
  case round =>
    clear B1 b1 o1
    obtain ⟨k, bv, hk, rfl, B, o, bb⟩ := hrel
    by_cases hkn : k < n
    · have ki : (k : Int) < (n : Int) := by omega
      have ck : wr.cell? ⟨sb, k, none⟩ = some (v k) := (bb.cell hsb).trans (hc k hkn)
      obtain ⟨Ak, mk, hvk⟩ := slice_form (ho k hkn)
      rw [hvk] at ck
      go_wp2_with fail
      refine (putBytes_any w.heap.size k bv _ _ wr B o ⟨Ak, _, mk, rfl⟩ (by omega)).mono ?_
      rintro e w2 ⟨rfl, bv2, B2, o2, c2⟩
      have bb2 := bb.trans (c2.below bb.size fun b hb h => by omega)
      rw [← hvk, show (List.range k).map v ++ [v k] = (List.range (k + 1)).map v by simp [List.range_succ]] at o2
      go_wp2_with fail
      go_roundw
      case rel => exact ⟨k + 1, bv2, by omega, by go_num, B2, o2, bb2⟩
      case measure => simp [intOf]; omega
    · have ek : k = n := by omega
      rw [ek] at o
      have ki : ¬ (k : Int) < (n : Int) := by omega
      clear ek hk hkn
      rcases o.2 with ⟨_, h0⟩ | ⟨lb, cap, cur, rfl, hlb, hg, _, _, _, ht⟩
      · omega
      · have hold : ∀ k, k < n → ∀ b, (v k).ownBlock = some b → b < w.heap.size := fun k hk b hb => ((ho k hk).lt b hb).2
        have bz := bb.size
        have lbl : lb < wr.heap.size := (Array.getElem?_eq_some_iff.1 hg).1
        have S : FS wr lb n v := ⟨fun k hk => by
            rw [World.ownsRow.cellAt o k (by omega)]
            simp [hk], ap, fun k hk h => by have := hold k hk _ h; omega, fun k hk b hb => by have := hold k hk b hb; omega, lbl⟩
        have ho2 : ∀ j, j < n → OwnB wr 0 (v j) (L j) := fun j hj => (ho j hj).below bb
        clear o ht hg
        go_wp2_with fail
        refine (apartBytes_all w.heap.size lb n cap v L wr B S (fun k hk h => by have := hold k hk _ h; omega) hn hn2 ho2 hl).mono ?_
        rintro e w2 ⟨rfl, c2⟩
        have cg : Chg (VK n v) w w2 := (Chg.of_below (K := VK n v) bb fun b hb h => by omega).trans c2
        go_wp2
        go_ret
        exact ⟨rfl, cg⟩
end Go.Proofs.YtdkcjmpikmnedaaGreat
