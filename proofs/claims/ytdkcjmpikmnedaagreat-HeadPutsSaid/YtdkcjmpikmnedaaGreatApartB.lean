/- The walks through peatbankkit's putBytes, apart and ApartBytes. -/
import Derived.Test.YtdkcjmpikmnedaaGreatFlatB
import Derived.Test.YtdkcjmpikmnedaaGreatFlatNil
namespace Go.Proofs.YtdkcjmpikmnedaaGreat
open Go.RowKit
set_option linter.unusedSimpArgs false

/-- A bag's cells: rows of bytes alone. -/
def bagC (x : Value) : Array Value := #[.slice none 0 0, .slice none 0 0, .slice none 0 0, .slice none 0 0, .slice none 0 0, x, .slice none 0 0, .slice none 0 0, .slice none 0 0, .slice none 0 0, .slice none 0 0, .slice none 0 0, .slice none 0 0, .slice none 0 0, .slice none 0 0, .slice none 0 0, .slice none 0 0, .slice none 0 0, .slice none 0 0, .slice none 0 0, .slice none 0 0]
theorem bagC_set (x y : Value) : (bagC x).setIfInBounds 5 y = bagC y := rfl

set_option maxRecDepth 100000 in
theorem putBytes_any (bb k : Nat) (bv x : Value) (xs : List Value) (w : World) (hB : Blk w bb 106 (bagC bv)) (ho : w.ownsRow (bb + 1) 30 1 bv k xs) (hx : ∃ A m c, x = .slice A m c) (hk : k ≤ 1000) :
    Calls Tryz.prog 57 #[.pointer (some ⟨bb, 0, none⟩), x] w fun e w' => e = .returned (.tuple #[]) ∧ ∃ bv', Blk w' bb 106 (bagC bv') ∧ w'.ownsRow (bb + 1) 30 1 bv' (k + 1) (xs ++ [x]) ∧ Chg (fun b => bb ≤ b) w w' := by
  obtain ⟨A, m, c, rfl⟩ := hx
  have c5 : w.cell? ⟨bb, 5, none⟩ = some bv := hB.cell 5
  have f5 := hB.frozen 5
  have hbl := hB.lt
  obtain ⟨i0, hi0, hz0, hz1, hz2⟩ := info_parts row_info
  go_enter Tryz.func57, Tryz.ntmps57
  go_wp2_with (with_reducible refine stop_append ?_)
  unfold Stopped
  refine wpList_append_two rfl _ _ 38 rfl 30 i0 (.slice none 0 0) 1 24 Tryz.underlying38 hi0 hz0 hz1 hz2 rfl (by omega) (by omega) bv k xs rfl (own_base (World.ownsRow.alloc ho _) (Nat.zero_le _)) ⟨w.heap.size, 0, none⟩ 1 1 [.slice A m c] rfl rfl (rd_cells (rd_new w 30 [.slice A m c] (fun _ => True) trivial)) (fun u hu => by simp at hu; subst hu; rfl) (by omega) ?_
  intro v2 w2 G
  have o2 := own_rebase G.own (b' := bb + 1) (fun g hg => (G.home g hg).elim (fun h => (ho.lt g h).1) fun h => by simp at h; omega)
  have nb : ∀ b, b ≤ bb → some b ≠ bv.ownBlock := fun b hb e => by have := (ho.lt b e.symm).1; omega
  have B2 := (hB.alloc (.cells #[.slice A m c] 30)).grown G.grown (nb bb (Nat.le_refl _))
  have cg : Chg (fun b => bb ≤ b) w w2 := ((Chg.refl (fun b => bb ≤ b) w).alloc (.cells #[.slice A m c] 30)).trans' (Chg.of_grown (K := fun b => some b = bv.ownBlock) G.grown fun b _ h => h) fun b _ h => by have := (ho.lt b h.symm).1; omega
  have q5 : w2.cell? ⟨bb, 5, none⟩ = some bv := B2.cell 5
  have p5 := B2.frozen 5
  obtain ⟨A2, c2, rfl⟩ := slice_form (own_base o2 (Nat.zero_le _))
  clear G c5 f5 hB ho hi0 hz0 hz1 hz2
  go_wp2
  first | go_end0 | (simp only [Exit.inBlock, Exit.then]; refine bodyPost_ret (results_none rfl _ _ _) rfl ?_) | refine bodyPost_ret (results_none rfl _ _ _) rfl ?_
  have B3 := B2.set_ 5 (.slice A2 (k + 1) c2)
  rw [bagC_set] at B3
  have c3 : Chg (fun b => b = bb) w2 (w2.setCell ⟨bb, 5, none⟩ (.slice A2 (k + 1) c2)) := (Chg.refl (fun b => b = bb) w2).setCell (p := ⟨bb, 5, none⟩) (fun _ => rfl) _
  exact ⟨rfl, _, B3, chg_own c3 o2 (fun b hb e => by have := (o2.lt b hb).1; omega), cg.setCell (p := ⟨bb, 5, none⟩) (fun _ => Nat.le_refl _) _⟩

set_option maxRecDepth 100000 in
set_option maxHeartbeats 3200000 in
theorem apartBytes_all (bb lb n cp : Nat) (v : Nat → Value) (L : Nat → List B8) (w : World) (hB : Blk w bb 106 (bagC (.slice (some ⟨lb, 0, none⟩) n cp))) (S : FS w lb n v) (hbb : ∀ k, k < n → (v k).ownBlock ≠ some bb) (hn : 0 < n) (hn2 : n ≤ 100) (ho : ∀ j, j < n → OwnB w 0 (v j) (L j)) (hl : ∀ j, j < n → (L j).length ≤ 100000) :
    Calls Tryz.prog 58 #[.pointer (some ⟨bb, 0, none⟩)] w fun e w' => e = .returned (.bool true) ∧ Chg (VK n v) w w' := by
  have hbl := hB.lt
  have g0 : Chg (VK n v) w w := Chg.refl _ _
  have B0 := hB
  have c0 : w.cell? ⟨bb, 0, none⟩ = some (.slice none 0 0) := hB.cell 0
  go_enter Tryz.func58, Tryz.ntmps58
  go_wp2_with fail
  refine (flatLimbs_nil w).mono ?_
  rintro e w1 ⟨rfl, b1⟩
  have g1 := g0.trans' (Chg.of_below (K := fun b => w.heap.size ≤ b) b1 fun b _ h => h) fun b hb h => by have := g0.size; omega
  have B1 := B0.below b1 B0.lt
  have c1 : w1.cell? ⟨bb, 1, none⟩ = some (.slice none 0 0) := B1.cell 1
  clear c0 B0 g0
  go_wp2_with fail
  refine (flatWords_nil w1).mono ?_
  rintro e w2 ⟨rfl, b2⟩
  have g2 := g1.trans' (Chg.of_below (K := fun b => w1.heap.size ≤ b) b2 fun b _ h => h) fun b hb h => by have := g1.size; omega
  have B2 := B1.below b2 B1.lt
  have c2 : w2.cell? ⟨bb, 2, none⟩ = some (.slice none 0 0) := B2.cell 2
  clear c1 B1 g1
  go_wp2_with fail
  refine (flatInts_nil w2).mono ?_
  rintro e w3 ⟨rfl, b3⟩
  have g3 := g2.trans' (Chg.of_below (K := fun b => w2.heap.size ≤ b) b3 fun b _ h => h) fun b hb h => by have := g2.size; omega
  have B3 := B2.below b3 B2.lt
  have c3 : w3.cell? ⟨bb, 3, none⟩ = some (.slice none 0 0) := B3.cell 3
  clear c2 B2 g2
  go_wp2_with fail
  refine (flatLongs_nil w3).mono ?_
  rintro e w4 ⟨rfl, b4⟩
  have g4 := g3.trans' (Chg.of_below (K := fun b => w3.heap.size ≤ b) b4 fun b _ h => h) fun b hb h => by have := g3.size; omega
  have B4 := B3.below b4 B3.lt
  have c4 : w4.cell? ⟨bb, 4, none⟩ = some (.slice none 0 0) := B4.cell 4
  clear c3 B3 g3
  go_wp2_with fail
  refine (flatTexts_nil w4).mono ?_
  rintro e w5 ⟨rfl, b5⟩
  have g5 := g4.trans' (Chg.of_below (K := fun b => w4.heap.size ≤ b) b5 fun b _ h => h) fun b hb h => by have := g4.size; omega
  have B5 := B4.below b5 B4.lt
  have c5 : w5.cell? ⟨bb, 5, none⟩ = some (.slice (some ⟨lb, 0, none⟩) n cp) := B5.cell 5
  clear c4 B4 g4
  go_wp2_with fail
  have S5 : FS w5 lb n v := ⟨fun k hk => S.cell_at g5 k hk, S.apart, S.vlb, fun k hk b hb => by have := S.old k hk b hb; have := g5.size; omega, by have := S.lbl; have := g5.size; omega⟩
  have bel5 : Below w.heap.size w w5 := ((((b1.trans (b2.mono b1.size)).trans (b3.mono (Nat.le_trans b1.size b2.size))).trans (b4.mono (Nat.le_trans (Nat.le_trans b1.size b2.size) b3.size))).trans (b5.mono (Nat.le_trans (Nat.le_trans (Nat.le_trans b1.size b2.size) b3.size) b4.size)))
  have ho5 : ∀ j, j < n → OwnB w5 0 (v j) (L j) := fun j hj => (ho j hj).below bel5
  refine (flatBytes_any lb n cp v L w5 S5 hn hn2 ho5 hl).mono ?_
  rintro e w6 ⟨rfl, b6⟩
  have g6 := g5.trans b6
  have B6 := b6.blk B5 (fun ⟨k, hk, h⟩ => hbb k hk h)
  clear S5 ho5 bel5 b1 b2 b3 b4 b5 S ho hl
  have c6 : w6.cell? ⟨bb, 6, none⟩ = some (.slice none 0 0) := B6.cell 6
  clear c5 B5 g5
  go_wp2_with fail
  refine (flatTreeKeys_nil w6).mono ?_
  rintro e w7 ⟨rfl, b7⟩
  have g7 := g6.trans' (Chg.of_below (K := fun b => w6.heap.size ≤ b) b7 fun b _ h => h) fun b hb h => by have := g6.size; omega
  have B7 := B6.below b7 B6.lt
  have c7 : w7.cell? ⟨bb, 7, none⟩ = some (.slice none 0 0) := B7.cell 7
  clear c6 B6 g6 b7
  go_wp2_with fail
  refine (flatPieces_nil w7).mono ?_
  rintro e w8 ⟨rfl, b8⟩
  have g8 := g7.trans' (Chg.of_below (K := fun b => w7.heap.size ≤ b) b8 fun b _ h => h) fun b hb h => by have := g7.size; omega
  have B8 := B7.below b8 B7.lt
  have c8 : w8.cell? ⟨bb, 8, none⟩ = some (.slice none 0 0) := B8.cell 8
  clear c7 B7 g7 b8
  go_wp2_with fail
  refine (flatFates_nil w8).mono ?_
  rintro e w9 ⟨rfl, b9⟩
  have g9 := g8.trans' (Chg.of_below (K := fun b => w8.heap.size ≤ b) b9 fun b _ h => h) fun b hb h => by have := g8.size; omega
  have B9 := B8.below b9 B8.lt
  have c9 : w9.cell? ⟨bb, 9, none⟩ = some (.slice none 0 0) := B9.cell 9
  clear c8 B8 g8 b9
  go_wp2_with fail
  refine (flatFrames_nil w9).mono ?_
  rintro e w10 ⟨rfl, b10⟩
  have g10 := g9.trans' (Chg.of_below (K := fun b => w9.heap.size ≤ b) b10 fun b _ h => h) fun b hb h => by have := g9.size; omega
  have B10 := B9.below b10 B9.lt
  have c10 : w10.cell? ⟨bb, 10, none⟩ = some (.slice none 0 0) := B10.cell 10
  clear c9 B9 g9 b10
  go_wp2_with fail
  refine (flatPlaces_nil w10).mono ?_
  rintro e w11 ⟨rfl, b11⟩
  have g11 := g10.trans' (Chg.of_below (K := fun b => w10.heap.size ≤ b) b11 fun b _ h => h) fun b hb h => by have := g10.size; omega
  have B11 := B10.below b11 B10.lt
  have c11 : w11.cell? ⟨bb, 11, none⟩ = some (.slice none 0 0) := B11.cell 11
  clear c10 B10 g10 b11
  go_wp2_with fail
  refine (flatEntries_nil w11).mono ?_
  rintro e w12 ⟨rfl, b12⟩
  have g12 := g11.trans' (Chg.of_below (K := fun b => w11.heap.size ≤ b) b12 fun b _ h => h) fun b hb h => by have := g11.size; omega
  have B12 := B11.below b12 B11.lt
  have c12 : w12.cell? ⟨bb, 12, none⟩ = some (.slice none 0 0) := B12.cell 12
  clear c11 B11 g11 b12
  go_wp2_with fail
  refine (flatNodes_nil w12).mono ?_
  rintro e w13 ⟨rfl, b13⟩
  have g13 := g12.trans' (Chg.of_below (K := fun b => w12.heap.size ≤ b) b13 fun b _ h => h) fun b hb h => by have := g12.size; omega
  have B13 := B12.below b13 B12.lt
  have c13 : w13.cell? ⟨bb, 13, none⟩ = some (.slice none 0 0) := B13.cell 13
  clear c12 B12 g12 b13
  go_wp2_with fail
  refine (flatItems_nil w13).mono ?_
  rintro e w14 ⟨rfl, b14⟩
  have g14 := g13.trans' (Chg.of_below (K := fun b => w13.heap.size ≤ b) b14 fun b _ h => h) fun b hb h => by have := g13.size; omega
  have B14 := B13.below b14 B13.lt
  have c14 : w14.cell? ⟨bb, 14, none⟩ = some (.slice none 0 0) := B14.cell 14
  clear c13 B13 g13 b14
  go_wp2_with fail
  refine (flatCounts_nil w14).mono ?_
  rintro e w15 ⟨rfl, b15⟩
  have g15 := g14.trans' (Chg.of_below (K := fun b => w14.heap.size ≤ b) b15 fun b _ h => h) fun b hb h => by have := g14.size; omega
  have B15 := B14.below b15 B14.lt
  have c15 : w15.cell? ⟨bb, 15, none⟩ = some (.slice none 0 0) := B15.cell 15
  clear c14 B14 g14 b15
  go_wp2_with fail
  refine (flatFreshes_nil w15).mono ?_
  rintro e w16 ⟨rfl, b16⟩
  have g16 := g15.trans' (Chg.of_below (K := fun b => w15.heap.size ≤ b) b16 fun b _ h => h) fun b hb h => by have := g15.size; omega
  have B16 := B15.below b16 B15.lt
  have c16 : w16.cell? ⟨bb, 16, none⟩ = some (.slice none 0 0) := B16.cell 16
  clear c15 B15 g15 b16
  go_wp2_with fail
  refine (flatPuts_nil w16).mono ?_
  rintro e w17 ⟨rfl, b17⟩
  have g17 := g16.trans' (Chg.of_below (K := fun b => w16.heap.size ≤ b) b17 fun b _ h => h) fun b hb h => by have := g16.size; omega
  have B17 := B16.below b17 B16.lt
  have c17 : w17.cell? ⟨bb, 17, none⟩ = some (.slice none 0 0) := B17.cell 17
  clear c16 B16 g16 b17
  go_wp2_with fail
  refine (flatOps_nil w17).mono ?_
  rintro e w18 ⟨rfl, b18⟩
  have g18 := g17.trans' (Chg.of_below (K := fun b => w17.heap.size ≤ b) b18 fun b _ h => h) fun b hb h => by have := g17.size; omega
  have B18 := B17.below b18 B17.lt
  have c18 : w18.cell? ⟨bb, 18, none⟩ = some (.slice none 0 0) := B18.cell 18
  clear c17 B17 g17 b18
  go_wp2_with fail
  refine (flatSteps_nil w18).mono ?_
  rintro e w19 ⟨rfl, b19⟩
  have g19 := g18.trans' (Chg.of_below (K := fun b => w18.heap.size ≤ b) b19 fun b _ h => h) fun b hb h => by have := g18.size; omega
  have B19 := B18.below b19 B18.lt
  have c19 : w19.cell? ⟨bb, 19, none⟩ = some (.slice none 0 0) := B19.cell 19
  clear c18 B18 g18 b19
  go_wp2_with fail
  refine (flatStats_nil w19).mono ?_
  rintro e w20 ⟨rfl, b20⟩
  have g20 := g19.trans' (Chg.of_below (K := fun b => w19.heap.size ≤ b) b20 fun b _ h => h) fun b hb h => by have := g19.size; omega
  have B20 := B19.below b20 B19.lt
  have c20 : w20.cell? ⟨bb, 20, none⟩ = some (.slice none 0 0) := B20.cell 20
  clear c19 B19 g19 b20
  go_wp2_with fail
  refine (flatTales_nil w20).mono ?_
  rintro e w21 ⟨rfl, b21⟩
  have g21 := g20.trans' (Chg.of_below (K := fun b => w20.heap.size ≤ b) b21 fun b _ h => h) fun b hb h => by have := g20.size; omega
  have B21 := B20.below b21 B20.lt
  clear c20 B20 g20 b21
  go_wp2
  go_ret
  exact ⟨rfl, g21⟩
end Go.Proofs.YtdkcjmpikmnedaaGreat
