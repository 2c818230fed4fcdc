/- The walk through sha.Sum. -/
import Derived.Test.YtdkcjmpikmnedaaDoorShaSum
namespace Go.Proofs.YtdkcjmpikmnedaaDoor
open Go.RowKit
set_option linter.unusedSimpArgs false

theorem left_nil : left [] = [] := rfl
theorem blks_nil (s : Wds) : blks s [] = s := rfl
/-- The two variables of the program as they must be. -/
structure Laid (w : World) : Prop where
  fst : FstAt w
  rks : RksAt w
theorem Laid.below {w w' : World} {B : Nat} (h : Laid w) (hb : Below B w w') (hB : 1 < B) : Laid w' := ⟨RowAt.below h.fst hb (by omega), RowAt.below h.rks hb hB⟩
theorem Laid.lt {w : World} (h : Laid w) : 1 < w.heap.size := RowAt.lt h.rks
theorem Laid.drew {w : World} (h : Laid w) : Laid w.drew := ⟨h.fst, h.rks⟩
theorem Laid.drewN {w : World} (h : Laid w) (n : Nat) : Laid (w.drewN n) := ⟨h.fst, h.rks⟩
theorem Laid.alloc {w : World} (h : Laid w) (o : Obj) : Laid (w.alloc o) := ⟨RowAt.alloc h.fst o, RowAt.alloc h.rks o⟩
theorem Laid.chg {w w' : World} {K : Nat → Prop} (h : Laid w) (hc : Chg K w w') (hK : ∀ b, K b → 1 < b) : Laid w' :=
  ⟨RowAt.of h.fst (hc.block _ (RowAt.lt h.fst) fun e => by have := hK _ e; omega), RowAt.of h.rks (hc.block _ (RowAt.lt h.rks) fun e => by have := hK _ e; omega)⟩
theorem new_is (w : World) (hL : Laid w) :
    Calls Tryd.prog 16 #[] w fun e w' => e = .returned (.pointer (some ⟨w.heap.size + 1, 0, none⟩)) ∧ IsH w' (w.heap.size + 1) w.heap.size (.slice none 0 0) [] ∧ Below w.heap.size w w' := by
  have h1 := hL.lt
  refine (new_any w hL.fst).mono ?_
  rintro e w' ⟨rfl, hS, hH, hb⟩
  exact ⟨rfl, ⟨hH, hS, OwnB.nil _ _, by omega, h1⟩, hb⟩
theorem IsH.chg {w w' : World} {H S : Nat} {v : Value} {t : List B8} {K : Nat → Prop} (h : IsH w H S v t) (hc : Chg K w w') (hH : ¬ K H) (hS : ¬ K S) (hv : ∀ g, v.ownBlock = some g → ¬ K g) : IsH w' H S v t :=
  ⟨hc.blk h.hash hH, hc.blk h.state hS, hc.own h.own hv, h.lt, h.one⟩
theorem IsH.below {w w' : World} {H S B : Nat} {v : Value} {t : List B8} (h : IsH w H S v t) (hb : Below B w w') (hB : w.heap.size ≤ B) : IsH w' H S v t := by
  have hH := h.hash.lt
  have hS := h.state.lt
  exact h.chg (Chg.of_below (K := fun b => w.heap.size ≤ b) hb fun b _ hx => by omega) (by omega) (by omega) fun g e => by have := (h.own.lt g e).2; omega
theorem IsT.chg {w w' : World} {H S : Nat} {v : Value} {t : List B8} {K : Nat → Prop} (h : IsT w H S v t) (hc : Chg K w w') (hH : ¬ K H) : IsT w' H S v t := ⟨hc.blk h.hash hH, h.lt⟩
theorem IsT.below {w w' : World} {H S B : Nat} {v : Value} {t : List B8} (h : IsT w H S v t) (hb : Below B w w') (hB : w.heap.size ≤ B) : IsT w' H S v t := ⟨h.hash.below hb (by have := h.hash.lt; omega), h.lt⟩

theorem digest_length (t : List B8) : (digest t).length = 32 := key_length _
set_option maxRecDepth 100000 in
/-- sha.Sum. -/
theorem shaSum_any (A : Option Addr) (c : Nat) (l : List B8) (P : Nat → Prop) (w : World) (hL : Laid w) (hr : Rd w P A (bs l)) (hl : l.length ≤ 1099511627776) :
    Calls Tryd.prog 10 #[.slice A l.length c] w fun e w' => e = .returned (.agg (bs (digest l)).toArray) ∧ Below w.heap.size w w' := by
  have h1 := hL.lt
  have b1 : Below w.heap.size w (w.alloc (.cells (bs nokey).toArray 26)) := (Below.refl _ _).alloc (Nat.le_refl _) _
  have B1 := Blk.new w 26 (bs nokey).toArray
  have hL1 := hL.alloc (.cells (bs nokey).toArray 26)
  have r1 := hr.old b1
  have hz : (w.alloc (.cells (bs nokey).toArray 26)).heap.size = w.heap.size + 1 := by simp
  have hN := hide (new_is _ hL1)
  rw [hz] at hN
  clear hL hr
  go_enter Tryd.func10, Tryd.ntmps10
  go_wp2_with (go_at_call 16; refine Calls.mono hN.out ?_; rintro e w2 ⟨rfl, hI, b2⟩)
  have hL2 := hL1.below b2 (by omega)
  have hB2 := B1.below b2 (by omega)
  have r2 := r1.below b2 (fun b hb _ => by omega)
  have g2 := b1.trans (b2.mono (by omega))
  refine (write_any (w.heap.size + 1 + 1) (w.heap.size + 1) (.slice none 0 0) [] l A c _ w2 hI hL2.rks r2 (fun b hb => ⟨by have := hb.2; omega, by have := hb.2; omega, by simp [Value.ownBlock]⟩) (by simpa using hl)).mono ?_
  rintro e w3 ⟨rfl, v3, hI3, ow3, g3⟩
  rw [List.nil_append] at hI3 ow3
  have hL3 := hL2.chg g3 fun b hb => by rcases hb with e | e | e <;> first | omega | (simp [Value.ownBlock] at e)
  have w2s := g2.size
  have b3 : Below w.heap.size w2 w3 := g3.below (by omega) fun b hb hx => by rcases hx with e | e | e <;> first | omega | (simp [Value.ownBlock] at e)
  have hB3 := g3.blk hB2 (by rintro (e | e | e) <;> first | omega | (simp [Value.ownBlock] at e))
  go_wp2_with fail
  refine (sum_first (w.heap.size + 1 + 1) (w.heap.size + 1) v3 l w3 hI3 hL3.rks hl).mono ?_
  rintro e w4 ⟨rfl, hT4, g4⟩
  have z3 := g3.size
  have vlo : ∀ g, v3.ownBlock = some g → w2.heap.size ≤ g := fun g e => (ow3.lt g e).1
  have z2 : w.heap.size + 2 ≤ w2.heap.size := by have := hI.hash.lt; omega
  have b4 : Below w.heap.size w3 w4 := g4.below (by omega) fun b hb hx => by rcases hx with e | e | e <;> first | omega | (have := vlo b e.symm; omega)
  have hB4 := g4.blk hB3 (by rintro (e | e | e) <;> first | omega | (have := vlo _ e.symm; omega))
  have bb := (g2.trans b3).trans b4
  have dl : (bs (digest l)).length = 32 := by rw [bs_length]; exact key_length _
  have HD := hide dl
  clear dl hL1 hL2 hL3 hN hI hI3 hT4 g3 g4 b3 b4 g2 b1 b2 B1 hB2 hB3 r1 r2 ow3 vlo
  go_wp2_with (with_reducible refine stop_store_key ?_)
  unfold Stopped
  refine wpList_store_row rfl _ _ _ rfl w.heap.size (bs (digest l)).toArray rfl rfl _ _ hB4 (by rw [List.size_toArray, HD.out]; kernel_rfl) (by rw [List.size_toArray, List.size_toArray, HD.out]; rfl) (all_oneCell_toArray (bs_one _)) ?_
  have B5 : Blk (w4.setRow w.heap.size (bs (digest l)).toArray) w.heap.size 26 (bs (digest l)).toArray := setRow_heap w4 _ _ _ _ _ hB4
  have so : ∀ k, k ≠ w.heap.size → (w4.setRow w.heap.size (bs (digest l)).toArray).heap[k]? = w4.heap[k]? := fun k hk => setRow_other w4 _ _ _ hk
  have b5 : Below w.heap.size w (w4.setRow w.heap.size (bs (digest l)).toArray) := bb.trans ⟨rfl, rfl, rfl, by simp, fun b hb => so b (by omega)⟩
  generalize w4.setRow w.heap.size (bs (digest l)).toArray = w5 at *
  go_wp2
  refine bodyPost_ret (v := .agg (bs (digest l)).toArray) ?_ rfl ⟨rfl, b5⟩
  exact results_cell_row rfl _ _ w.heap.size _ _ _ _ rfl B5 Tryd.underlying26 rfl (by rw [List.size_toArray, HD.out]; kernel_rfl)
end Go.Proofs.YtdkcjmpikmnedaaDoor
