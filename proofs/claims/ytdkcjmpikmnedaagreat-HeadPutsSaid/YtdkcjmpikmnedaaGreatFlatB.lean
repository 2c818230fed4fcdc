/- The walk through peatbankkit's flatBytes. -/
import Derived.Test.YtdkcjmpikmnedaaGreatFlatK
import Derived.Test.YtdkcjmpikmnedaaGreatKit
import Derived.Test.YtdkcjmpikmnedaaGreatSink
namespace Go.Proofs.YtdkcjmpikmnedaaGreat
open Go.RowKit
set_option linter.unusedSimpArgs false

theorem marks_set (k : Int) (q : Nat) (l : List B8) (h : q < l.length) : (marks k q ++ l.drop q).set q (mB k q) = marks k (q + 1) ++ l.drop (q + 1) := by
  rw [List.set_append_right _ _ (by simp), marks_length, Nat.sub_self, marks_succ, List.drop_eq_getElem_cons h, List.set_cons_zero, List.append_assoc]
  rfl
theorem own_bytes {w : World} {v : Value} {n : Nat} {l : List B8} (h : w.ownsRow 0 5 1 v n (bs l)) : OwnB w 0 v l ∧ l.length = n := by
  have e : l.length = n := by have := h.1; simpa using this
  subst e
  exact ⟨h, rfl⟩
theorem slice_form {w : World} {e : TypeId} {size : Nat} {v : Value} {n : Nat} {xs : List Value} (h : w.ownsRow 0 e size v n xs) : ∃ A c, v = .slice A n c := by
  rcases h.2 with ⟨rfl, rfl⟩ | ⟨g, cap, cur, rfl, _⟩
  · exact ⟨_, _, rfl⟩
  · exact ⟨_, _, rfl⟩

theorem marks_take (k : Int) (n m : Nat) (h : m ≤ n) : (bs (marks k n)).take (m * 1) = bs (marks k m) := by
  rw [Nat.mul_one, ← bs_take]
  congr 1
  apply List.ext_getElem
  · simp [Nat.min_eq_left h]
  · intro i h1 h2
    rw [List.getElem_take, marks_get, marks_get]
theorem one_cells (w : World) (c : B8) (j : Nat) (u : Value) (h : (bs [c])[j]? = some u) : (w.alloc (.cells #[.int .u8 (c.toNat : Int)] 5)).cell? ((⟨w.heap.size, 0, none⟩ : Addr).add j) = some u :=
  rd_cells (rd_one w c (fun _ => True) trivial) j u h
theorem row_info : (Tryz.prog.info? 30).map (fun i => (i.zero, i.size, i.bytes)) = some (some (.slice none 0 0), 1, 24) := by kernel_rfl
theorem made_rows (n : Nat) : (madeCells (Value.slice none 0 0).cells (n * 1)).toList = (rowTab n fun _ => .slice none 0 0).toList := by
  apply List.ext_getElem
  · simp [madeCells, rowTab]
  · intro j h1 h2
    simp only [madeCells, Value.cells, Nat.mul_one] at h1 ⊢
    simp [rowTab, Nat.mod_one]
theorem blk_of_own {w : World} {e : TypeId} {g n : Nat} {cs : Array Value} (h : w.ownsRow g e 1 (.slice (some ⟨g, 0, none⟩) n n) n cs.toList) : Blk w g e cs := by
  rcases h.2 with ⟨h', _⟩ | ⟨g', cap', cur, h', _, hg, hnc, hcm, hcs, ht⟩
  · simp at h'
  · simp only [Value.slice.injEq, Option.some.injEq, Addr.mk.injEq, and_true, true_and] at h'
    obtain ⟨rfl, rfl⟩ := h'
    have : cur = cs := by
      apply Array.ext'
      rw [← ht, List.take_of_length_le (by rw [Array.length_toList, hcs]; exact Nat.le_refl _)]
    unfold Blk
    rw [← this]
    exact hg

set_option maxRecDepth 100000 in
set_option maxHeartbeats 6400000 in
theorem flatBytes_any (lb n cp : Nat) (v : Nat → Value) (L : Nat → List B8) (w : World) (S : FS w lb n v) (hn : 0 < n) (hn2 : n ≤ 100) (ho : ∀ j, j < n → OwnB w 0 (v j) (L j)) (hl : ∀ j, j < n → (L j).length ≤ 100000) :
    Calls Tryz.prog 89 #[.slice (some ⟨lb, 0, none⟩) n cp] w fun e w' => e = .returned (.bool true) ∧ Chg (VK n v) w w' := by
  have F0 : F1 5 1 w n v (fun j => (L j).length) (fun j => if j < 0 then bs (marks j (L j).length) else bs (L j)) w := ⟨fun j hj => by simp only [Nat.not_lt_zero, if_false]; exact ho j hj, Chg.refl _ _⟩
  go_enter Tryz.func89, Tryz.ntmps89
  go_wp2_with fail
  go_loopw [3] (fun i wr => ∃ k : Nat, k ≤ n ∧ i = .int .i64 k ∧ F1 5 1 w n v (fun j => (L j).length) (fun j => if j < k then bs (marks j (L j).length) else bs (L j)) wr) (fun i _ => n - (intOf i).toNat)
  case atStart => exact ⟨0, by omega, rfl, F0⟩
  case round =>
    clear F0
    obtain ⟨k, hk, rfl, F⟩ := hrel
    by_cases hkn : k < n
    · have ki : (k : Int) < (n : Int) := by omega
      obtain ⟨Ak, ck, hvk⟩ := slice_form (ho k hkn)
      have G0 := F.congr (Y := fun j => if j < k then bs (marks j (L j).length) else if j = k then bs (marks k 0 ++ (L k).drop 0) else bs (L j)) fun j hj => by
        by_cases h1 : j < k
        · simp [h1]
        · by_cases h2 : j = k
          · subst h2; simp [marks_zero]
          · simp [h1, h2]
      clear F
      have hlk := hl k hkn
      go_wp2_with fail
      go_loopw [4] (fun i wr => ∃ q : Nat, q ≤ (L k).length ∧ i = .int .i64 q ∧ F1 5 1 w n v (fun j => (L j).length) (fun j => if j < k then bs (marks j (L j).length) else if j = k then bs (marks k q ++ (L k).drop q) else bs (L j)) wr) (fun i _ => (L k).length - (intOf i).toNat)
      case atStart => exact ⟨0, by omega, rfl, G0⟩
      case round =>
        clear G0
        obtain ⟨q, hq, rfl, F⟩ := hrel
        have cl : wr.cell? ⟨lb, k, none⟩ = some (.slice Ak (L k).length ck) := by rw [S.cell_at F.chg k hkn, hvk]
        by_cases hqn : q < (L k).length
        · have own := F.own k hkn
          simp only [Nat.lt_irrefl, if_false, if_true] at own
          obtain ⟨oB, ln⟩ := own_bytes own
          obtain ⟨b, cap, hvr, R, _, _⟩ := oB.row (by omega)
          rw [hvk] at hvr
          simp only [Value.slice.injEq] at hvr
          obtain ⟨rfl, hdump, rfl⟩ := hvr
          clear hdump
          have c0 := R.cell q (by omega)
          have f0 := R.frozen q
          have hqi : (q : Int) < ((L k).length : Int) := by omega
          have MS := hide (marks_set k q (L k) hqn)
          generalize (marks (k : Int) q ++ (L k).drop q)[q]'(by omega) = x at *
          have HLN := hide ln
          clear ln own
          generalize hLk : (L k).length = lk at *
          have HLK := hide hLk
          clear hLk
          go_wp2_with fail
          refine wp_region_sink 9 (fun wx => Drew wr wx) (by kernel_rfl) (Drew.one (Drew.refl _)) (fun hHeld => ?_)
          refine sink_take (i := 0) (oi := _) (v := ?_) rfl (by kernel_rfl) (by decide) (by kernel_rfl) (by kernel_rfl) (by kernel_rfl) (by kernel_rfl) (fun _ _ _ h => h) (by rfl) (fun wx hSw => ?_) hHeld ?_
          rotate_left
          · have e0 := (hSw.cell _).trans cl; go_simp
            with_reducible rfl
          try simp only [Act.put, List.setIfInBounds_toArray, List.set_cons_zero, List.set_cons_succ]
          refine sink_take (i := 1) (oi := _) (v := ?_) rfl (by kernel_rfl) (by decide) (by kernel_rfl) (by kernel_rfl) (by kernel_rfl) (by kernel_rfl) (fun _ _ _ h => h) (by rfl) (fun wx hSw => ?_) hHeld ?_
          rotate_left
          · have e0 := (hSw.cell _).trans cl; go_simp
            with_reducible rfl
          try simp only [Act.put, List.setIfInBounds_toArray, List.set_cons_zero, List.set_cons_succ]
          refine sink_take (i := 2) (oi := _) (v := ?_) rfl (by kernel_rfl) (by decide) (by kernel_rfl) (by kernel_rfl) (by kernel_rfl) (by kernel_rfl) (fun _ _ _ h => h) (by rfl) (fun wx hSw => ?_) hHeld ?_
          rotate_left
          · have e0 := (hSw.cell _).trans cl; go_simp
            with_reducible rfl
          try simp only [Act.put, List.setIfInBounds_toArray, List.set_cons_zero, List.set_cons_succ]
          refine sink_take (i := 3) (oi := _) (v := ?_) rfl (by kernel_rfl) (by decide) (by kernel_rfl) (by kernel_rfl) (by kernel_rfl) (by kernel_rfl) (fun _ _ _ h => h) (by rfl) (fun wx hSw => ?_) hHeld ?_
          rotate_left
          · have e0 := (hSw.cell _).trans cl; go_simp
            with_reducible rfl
          try simp only [Act.put, List.setIfInBounds_toArray, List.set_cons_zero, List.set_cons_succ]
          refine sink_take (i := 4) (oi := _) (v := ?_) rfl (by kernel_rfl) (by decide) (by kernel_rfl) (by kernel_rfl) (by kernel_rfl) (by kernel_rfl) (fun _ _ _ h => h) (by rfl) (fun wx hSw => ?_) hHeld ?_
          rotate_left
          · have e0 := (hSw.cell _).trans cl; go_simp
            with_reducible rfl
          try simp only [Act.put, List.setIfInBounds_toArray, List.set_cons_zero, List.set_cons_succ]
          refine sink_take (i := 5) (oi := _) (v := ?_) rfl (by kernel_rfl) (by decide) (by kernel_rfl) (by kernel_rfl) (by kernel_rfl) (by kernel_rfl) (fun _ _ _ h => h) (by rfl) (fun wx hSw => ?_) hHeld ?_
          rotate_left
          · have e0 := (hSw.cell _).trans cl; go_simp
            with_reducible rfl
          try simp only [Act.put, List.setIfInBounds_toArray, List.set_cons_zero, List.set_cons_succ]
          refine sink_take (i := 6) (oi := _) (v := ?_) rfl (by kernel_rfl) (by decide) (by kernel_rfl) (by kernel_rfl) (by kernel_rfl) (by kernel_rfl) (fun _ _ _ h => h) (by rfl) (fun wx hSw => ?_) hHeld ?_
          rotate_left
          · have e0 := (hSw.cell _).trans cl; go_simp
            with_reducible rfl
          try simp only [Act.put, List.setIfInBounds_toArray, List.set_cons_zero, List.set_cons_succ]
          refine sink_call (i := 7) (oi := _) (v := .int .u8 (mB k q).toNat) rfl (by kernel_rfl) (by decide) (by kernel_rfl) (by kernel_rfl) (by kernel_rfl) (by kernel_rfl) (fun _ _ _ h => h) (by rfl) (fun wx hSw => ?_) hHeld ?_
          · go_simp
            exact markByte_any k q _
          try simp only [Act.put, List.setIfInBounds_toArray, List.set_cons_zero, List.set_cons_succ]
          refine sink_take (i := 8) (oi := _) (v := ?_) rfl (by kernel_rfl) (by decide) (by kernel_rfl) (by kernel_rfl) (by kernel_rfl) (by kernel_rfl) (fun _ _ _ h => h) (by rfl) (fun wx hSw => ?_) hHeld ?_
          rotate_left
          · go_simp
            with_reducible rfl
          try simp only [Act.put, List.setIfInBounds_toArray, List.set_cons_zero, List.set_cons_succ]
          have f2 : wr.drew.frozen? ⟨b, q, none⟩ = false := f0
          have g2 : wr.drew.cell? ⟨b, q, none⟩ = some (.int .u8 (x.toNat : Int)) := c0
          refine sink_last (by kernel_rfl) rfl (by kernel_rfl) (by kernel_rfl) (fun K hK => ?_)
          go_simp
          refine hK.out _ _ ?_
          clear hK K
          try simp only [Act.put, List.setIfInBounds_toArray, List.set_cons_zero, List.set_cons_succ]
          go_wp2_with fail
          go_roundw
          case rel =>
            obtain ⟨R2, _⟩ := R.stored q (mB k q)
            rw [MS.out] at R2
            have l2 : (marks (k : Int) (q + 1) ++ (L k).drop (q + 1)).length = lk := by rw [← MS.out, List.length_set, HLN.out]
            have hvb : (v k).ownBlock = some b := by rw [hvk]; rfl
            have o2 := R2.own (Nat.zero_le b)
            rw [l2, ← hvk] at o2
            have o3 : (wr.setCell ⟨b, q, none⟩ (.int .u8 ((mB k q).toNat : Int))).drew.ownsRow 0 5 1 (v k) (L k).length (bs (marks (k : Int) (q + 1) ++ (L k).drop (q + 1))) := by
              have := o2.drew
              unfold OwnB at this
              rwa [l2, ← HLK.out] at this
            have cg : Chg (fun x => (v k).ownBlock = some x) wr (wr.setCell ⟨b, q, none⟩ (.int .u8 ((mB k q).toNat : Int))).drew := ((Chg.refl _ wr).setCell (p := ⟨b, q, none⟩) (fun _ => hvb) _).drew
            refine ⟨q + 1, by have := HLK.out; omega, by go_num, (F.step S k hkn _ cg o3).congr fun j hj => ?_⟩
            by_cases h1 : j = k
            · subst h1; simp
            · simp [h1]
          case measure => simp [intOf]; omega
        · have eq1 : q = (L k).length := by omega
          have hqi : ¬ (q : Int) < ((L k).length : Int) := by omega
          have F2 := F.congr (Y := fun j => if j < k + 1 then bs (marks j (L j).length) else bs (L j)) fun j hj => by
            by_cases h1 : j < k
            · simp [h1, Nat.lt_succ_of_lt h1]
            · by_cases h2 : j = k
              · subst h2; simp [eq1]
              · simp [h1, h2, show ¬ j < k + 1 by omega]
          clear F eq1
          go_wp2_with fail
          go_roundw
          case rel => exact ⟨k + 1, by omega, by go_num, F2⟩
          case measure => simp [intOf]; omega
    · have ki : ¬ (k : Int) < (n : Int) := by omega
      have F1' := F.congr (Y := fun j => bs (marks j (L j).length)) fun j hj => by simp [show j < k by omega]
      clear F
      obtain ⟨i0, hi0, hz0, hz1, hz2⟩ := info_parts row_info
      go_wp2_with (with_reducible refine stop_make ?_)
      unfold Stopped
      refine wpList_make_full wr rfl _ _ 38 rfl wr.heap.size 30 i0 (.slice none 0 0) 1 Tryz.underlying38 hi0 hz0 hz1 .i64 .i64 (n : Int) (n : Int) n rfl rfl rfl rfl (by rw [hz2]; omega) (by simp only [maxLen]; omega) (Nat.le_refl _) ?_
      intro w2 hrow2 hg2
      rw [made_rows] at hrow2
      have GB := blk_of_own hrow2
      clear hrow2 hi0 hz0 hz1 hz2
      have F3 := F2.begin (g := fun _ => .slice none 0 0) (C := fun j => bs (marks j ((L j).length + 64))) (cl := fun j => (L j).length + 64) S F1' rfl hg2 GB
      clear F1' hg2 GB hk hkn ki
      generalize wr.heap.size = gb at *
      go_wp2_with fail
      go_loopw [6] (fun i wr => ∃ (k : Nat) (g : Nat → Value), k ≤ n ∧ i = .int .i64 k ∧ F2 5 1 w lb n v (fun j => (L j).length) 30 gb k g (fun _ => .slice none 0 0) (fun j => bs (marks j (L j).length)) (fun j => bs (marks j ((L j).length + 64))) (fun j => (L j).length + 64) wr) (fun i _ => n - (intOf i).toNat)
      case atStart => exact ⟨0, _, by omega, rfl, F3⟩
      case round =>
        clear F3
        obtain ⟨k, g, hk, rfl, F⟩ := hrel
        by_cases hkn : k < n
        · have ki : (k : Int) < (n : Int) := by omega
          obtain ⟨Ak, ck, hvk⟩ := slice_form (F.vown k hkn)
          have cl : wr.cell? ⟨lb, k, none⟩ = some (.slice Ak (L k).length ck) := by rw [S.cell_at F.chg k hkn, hvk]
          have hlk := hl k hkn
          have hgn := F.gcell.lt
          go_wp2_with fail
          go_loopw [7, 8] (fun u i wq => ∃ q : Nat, q ≤ 64 ∧ i = .int .i64 q ∧ wq.ownsRow 0 5 1 u ((L k).length + q) (bs (marks k ((L k).length + q))) ∧ wq.ownsRow 0 5 1 (v k) (L k).length (bs (marks k (L k).length)) ∧ Chg (fun b => (v k).ownBlock = some b) wr wq ∧ ∀ b, u.ownBlock = some b → (v k).ownBlock = some b ∨ wr.heap.size ≤ b) (fun _ i _ => 64 - (intOf i).toNat)
          case atStart => exact ⟨0, by omega, rfl, by rw [← hvk]; exact F.vown k hkn, F.vown k hkn, Chg.refl _ _, fun b hb => .inl (by rw [hvk]; exact hb)⟩
          case round =>
            obtain ⟨q, hq, rfl, ou, ov, cg, hh⟩ := hrel
            have cl2 := S.cell_at (F.chg.trans' cg fun b _ hb => ⟨k, hkn, hb⟩) k hkn
            rw [hvk] at cl2
            obtain ⟨Au, cu, rfl⟩ := slice_form ou
            by_cases hq64 : q < 64
            · have qi : (q : Int) < 64 := by omega
              have w1 : IntKind.i64.wrap (((L k).length : Int) + (q : Int)) = ((L k).length : Int) + (q : Int) := by rw [IntKind.wrap_i64]; omega
              go_wp2_with (first | (go_at_call 59; refine (markByte_any _ _ _).mono ?_; rintro e w5 ⟨rfl, rfl⟩) | (with_reducible refine stop_append ?_))
              unfold Stopped
              obtain ⟨i1, hi1, hz1, hs1, hb1⟩ := info_parts u8_info
              have em : mB (k : Int) (((L k).length : Int) + (q : Int)) = mB (k : Int) (((L k).length + q : Nat) : Int) := by rw [Int.natCast_add]
              rw [em]
              refine wpList_append_two rfl _ _ 30 rfl 5 i1 (.int .u8 0) 1 1 Tryz.underlying30 hi1 hz1 hs1 hb1 rfl (by omega) (by omega) _ _ _ rfl (World.ownsRow.alloc ou _) ⟨wr.heap.size, 0, none⟩ 1 1 (bs [mB (k : Int) (((L k).length + q : Nat) : Int)]) rfl rfl (one_cells _ _) (bs_one _) (by omega) ?_
              intro u2 w2 G
              have ou2 := G.own
              rw [← bs_append, ← marks_succ] at ou2
              have ov2 := G.keep (World.ownsRow.alloc ou _) (World.ownsRow.alloc ov _) (Nat.le_add_right _ _) (marks_take (k : Int) _ _ (Nat.le_add_right _ _)).symm
              have cg2 := (cg.alloc (.cells #[.int .u8 ((mB (k : Int) (((L k).length + q : Nat) : Int)).toNat : Int)] 5)).trans' (Chg.of_grown (K := fun b => some b = (Value.slice Au ((L k).length + q) cu).ownBlock) G.grown fun b _ hb => hb) fun b hb hu => (hh b hu.symm).resolve_right (by omega)
              have hh2 := fun b (hb : u2.ownBlock = some b) => (G.home b hb).elim (hh b) fun h1 => Or.inr (Nat.le_trans (Nat.le_trans cg.size (by simp)) h1)
              obtain ⟨A2, c2, rfl⟩ := slice_form ou2
              clear G ou ov cg hh cl2 hi1 hz1 hs1 hb1
              go_wp2_with fail
              go_roundw
              case rel => exact ⟨q + 1, by omega, by go_num, ou2, ov2, cg2, hh2⟩
              case measure => simp [intOf]; omega
            · have qi : ¬ (q : Int) < 64 := by omega
              have q64 : q = 64 := by omega
              rw [q64] at ou hh
              rw [q64]
              clear q64
              have GB2 := cg.blk F.gcell (F.vgb k hkn)
              have gc : wr.cell? ⟨gb, k, none⟩ = some (.slice none 0 0) := by
                rw [GB2.cell, rowTab_get _ _ _ hkn]
                simp
              have gf := GB2.frozen k
              have ki2 : (k : Int) < (n : Int) := by omega
              have F4 := F.step S hkn _ cg ov ou hh
              clear GB2 ov ou cg hh F cl
              go_wp2_with fail
              go_roundw
              case rel => exact ⟨k + 1, _, by omega, by go_num, F4⟩
              case measure => simp [intOf]; omega
        · have ek : k = n := by omega
          rw [ek] at F
          have ki : ¬ (k : Int) < (n : Int) := by omega
          clear ek hk hkn
          go_wp2_with fail
          go_loopw [9] (fun i wr => ∃ k : Nat, k ≤ n ∧ i = .int .i64 k ∧ F2 5 1 w lb n v (fun j => (L j).length) 30 gb n g (fun _ => .slice none 0 0) (fun j => bs (marks j (L j).length)) (fun j => bs (marks j ((L j).length + 64))) (fun j => (L j).length + 64) wr) (fun i _ => n - (intOf i).toNat)
          case atStart => exact ⟨0, by omega, rfl, F⟩
          case round =>
            clear F ki
            obtain ⟨k, hk, rfl, F⟩ := hrel
            by_cases hkn : k < n
            · have ki : (k : Int) < (n : Int) := by omega
              have hlk := hl k hkn
              go_wp2_with fail
              go_loopw [10] (fun i wr => ∃ q : Nat, q ≤ (L k).length + 64 ∧ i = .int .i64 q ∧ F2 5 1 w lb n v (fun j => (L j).length) 30 gb n g (fun _ => .slice none 0 0) (fun j => bs (marks j (L j).length)) (fun j => bs (marks j ((L j).length + 64))) (fun j => (L j).length + 64) wr) (fun i _ => (L k).length + 64 - (intOf i).toNat)
              case atStart => exact ⟨0, by omega, rfl, F⟩
              case round =>
                clear F
                obtain ⟨q, hq, rfl, F⟩ := hrel
                obtain ⟨Ag, cg, hgk⟩ := slice_form (F.gown k hkn)
                have cgl : wr.cell? ⟨gb, k, none⟩ = some (.slice Ag ((L k).length + 64) cg) := by
                  rw [F.gcell.cell, rowTab_get _ _ _ hkn, if_pos hkn, hgk]
                obtain ⟨Av, cv, hvk⟩ := slice_form (F.vown k hkn)
                have cvl : wr.cell? ⟨lb, k, none⟩ = some (.slice Av (L k).length cv) := by rw [S.cell_at F.chg k hkn, hvk]
                by_cases hqn : q < (L k).length + 64
                · have qi : (q : Int) < ((L k).length : Int) + 64 := by omega
                  obtain ⟨oG, lg⟩ := own_bytes (F.gown k hkn)
                  obtain ⟨bg, cpg, hgr, RG, _, _⟩ := oG.row (by omega)
                  have cG := RG.cell q (by omega)
                  rw [marks_get] at cG
                  rw [hgk] at hgr
                  simp only [Value.slice.injEq] at hgr
                  obtain ⟨rfl, hd1, rfl⟩ := hgr
                  clear hd1 oG lg RG
                  by_cases hql : q < (L k).length
                  · have d1 : decide ((q : Int) < ((L k).length : Int)) = true := decide_eq_true (by omega)
                    have qli : (q : Int) < ((L k).length : Int) := by omega
                    obtain ⟨oV, lv⟩ := own_bytes (F.vown k hkn)
                    obtain ⟨bv, cpv, hvr, RV, _, _⟩ := oV.row (by omega)
                    have cV := RV.cell q (by omega)
                    rw [marks_get] at cV
                    rw [hvk] at hvr
                    simp only [Value.slice.injEq] at hvr
                    obtain ⟨rfl, hd1, rfl⟩ := hvr
                    clear hd1 oV lv RV
                    go_wp2_with fail
                    go_quiet ((go_at_call 59; exact quiet_left (markByte_any _ _ _)))
                    go_wp2_with fail
                    go_roundw
                    case rel => exact ⟨q + 1, by omega, by go_num, F.drewN _⟩
                    case measure => simp [intOf]; omega
                  · have d1 : decide ((q : Int) < ((L k).length : Int)) = false := decide_eq_false (by omega)
                    go_wp2_with fail
                    go_quiet ((go_at_call 59; exact quiet_left (markByte_any _ _ _)))
                    go_wp2_with fail
                    go_roundw
                    case rel => exact ⟨q + 1, by omega, by go_num, F.drewN _⟩
                    case measure => simp [intOf]; omega
                · have qi : ¬ (q : Int) < ((L k).length : Int) + 64 := by omega
                  go_wp2_with fail
                  go_roundw
                  case rel => exact ⟨k + 1, by omega, by go_num, F⟩
                  case measure => simp [intOf]; omega
            · have ki : ¬ (k : Int) < (n : Int) := by omega
              have F7 := F.restart (g' := fun _ => .slice none 0 0) (C' := fun j => bs (marks j (L j).length ++ marks ((j : Int) + (n : Int)) 64)) (cl' := fun j => (L j).length + 64)
              clear F hk hkn
              go_wp2_with fail
              go_loopw [11] (fun i wr => ∃ (k : Nat) (g2 : Nat → Value), k ≤ n ∧ i = .int .i64 k ∧ F2 5 1 w lb n v (fun j => (L j).length) 30 gb k g2 g (fun j => bs (marks j (L j).length)) (fun j => bs (marks j (L j).length ++ marks ((j : Int) + (n : Int)) 64)) (fun j => (L j).length + 64) wr) (fun i _ => n - (intOf i).toNat)
              case atStart => exact ⟨0, _, by omega, rfl, F7⟩
              case round =>
                clear F7 ki
                obtain ⟨k, g2, hk, rfl, F⟩ := hrel
                by_cases hkn : k < n
                · have ki : (k : Int) < (n : Int) := by omega
                  have hlk := hl k hkn
                  go_wp2_with (with_reducible refine stop_make ?_)
                  unfold Stopped
                  refine wpList_make_u8_full rfl _ _ rfl 64 64 64 rfl rfl rfl rfl (by omega) ?_
                  intro w2 R2 g2w
                  have F2' := F.fresh ((Chg.of_grown (K := fun b => wr.heap.size ≤ b) g2w fun b _ e => by cases e))
                  have gbl := F.gcell.lt
                  have hwr : wr.heap.size < w2.heap.size := R2.lt
                  have mv : ∀ j, j < n → (v j).ownBlock ≠ some wr.heap.size := fun j hj hb => by have := (F.vown j hj).lt _ hb; omega
                  have mg : ∀ j, j < k → (g2 j).ownBlock ≠ some wr.heap.size := fun j hj hb => by have := (F.gown j hj).lt _ hb; omega
                  have m0 := F.chg.size
                  generalize wr.heap.size = mb at *
                  clear F g2w
                  go_wp2_with fail
                  go_loopw [13] (fun i wq => ∃ q : Nat, q ≤ 64 ∧ i = .int .i64 q ∧ RowB wq mb 64 (marks ((k : Int) + (n : Int)) q ++ List.replicate (64 - q) 0#8) ∧ F2 5 1 w lb n v (fun j => (L j).length) 30 gb k g2 g (fun j => bs (marks j (L j).length)) (fun j => bs (marks j (L j).length ++ marks ((j : Int) + (n : Int)) 64)) (fun j => (L j).length + 64) wq) (fun i _ => 64 - (intOf i).toNat)
                  case atStart => exact ⟨0, by omega, rfl, by simpa [marks_zero] using R2, F2'⟩
                  case round =>
                    clear R2 F2'
                    obtain ⟨q, hq, rfl, R, F⟩ := hrel
                    by_cases hq64 : q < 64
                    · have qi : (q : Int) < 64 := by omega
                      have lR : (marks ((k : Int) + (n : Int)) q ++ List.replicate (64 - q) 0#8).length = 64 := by simp; omega
                      have cR := R.cell q (by omega)
                      have fR := R.frozen q
                      have w1 : IntKind.i64.wrap ((k : Int) + (n : Int)) = (k : Int) + (n : Int) := by rw [IntKind.wrap_i64]; omega
                      generalize (marks ((k : Int) + (n : Int)) q ++ List.replicate (64 - q) 0#8)[q]'(by omega) = x at *
                      have HLR := hide lR
                      clear lR
                      go_wp2_with (go_at_call 59; refine (markByte_any _ _ _).mono ?_; rintro e w5 ⟨rfl, rfl⟩)
                      go_roundw
                      case rel =>
                        obtain ⟨R3, g3⟩ := R.stored q (mB ((k : Int) + (n : Int)) q)
                        have e3 : (marks ((k : Int) + (n : Int)) q ++ List.replicate (64 - q) 0#8).set q (mB ((k : Int) + (n : Int)) q) = marks ((k : Int) + (n : Int)) (q + 1) ++ List.replicate (64 - (q + 1)) 0#8 := by
                          rw [List.set_append_right _ _ (by simp), marks_length, Nat.sub_self, marks_succ, show 64 - q = (64 - (q + 1)) + 1 by omega, List.replicate_succ, List.set_cons_zero, List.append_assoc]
                          rfl
                        rw [e3] at R3
                        exact ⟨q + 1, by omega, by go_num, R3, F.far (Chg.of_grown g3 fun b _ e => by injection e) (by omega) mv mg m0⟩
                      case measure => simp [intOf]; omega
                    · have qi : ¬ (q : Int) < 64 := by omega
                      have q64 : q = 64 := by omega
                      rw [q64, show 64 - 64 = 0 from rfl, List.replicate_zero, List.append_nil] at R
                      clear q64
                      obtain ⟨Av, cv, hvk⟩ := slice_form (F.vown k hkn)
                      have cvl : wr.cell? ⟨lb, k, none⟩ = some (.slice Av (L k).length cv) := by rw [S.cell_at F.chg k hkn, hvk]
                      have fv := F.vown k hkn
                      have fv' := fv
                      rw [hvk] at fv'
                      obtain ⟨i1, hi1, hz1, hs1, hb1⟩ := info_parts u8_info
                      have rm := R.rd (P := fun _ => True) trivial
                      go_wp2_with (with_reducible refine stop_append ?_)
                      unfold Stopped
                      refine wpList_append_two rfl _ _ 30 rfl 5 i1 (.int .u8 0) 1 1 Tryz.underlying30 hi1 hz1 hs1 hb1 rfl (by omega) (by omega) _ _ _ rfl fv' ⟨mb, 0, none⟩ 64 64 (bs (marks ((k : Int) + (n : Int)) 64)) rfl (by simp) (rd_cells rm) (bs_one _) (by omega) ?_
                      intro u2 w2 G
                      have ou2 := G.own
                      rw [← bs_append] at ou2
                      have ov2 := G.keep fv' fv (Nat.le_refl _) (by rw [List.take_of_length_le (by simp)])
                      have cg2 := Chg.of_grown (K := fun b => (v k).ownBlock = some b) G.grown fun b _ hb => by rw [hvk]; exact hb.symm
                      have hh2 := fun b (hb : u2.ownBlock = some b) => (G.home b hb).elim (fun h1 => Or.inl (hvk ▸ h1 : (v k).ownBlock = some b)) fun h1 => Or.inr h1
                      have GB2 := cg2.blk F.gcell (F.vgb k hkn)
                      have gc : w2.cell? ⟨gb, k, none⟩ = some (g k) := by
                        rw [GB2.cell, rowTab_get _ _ _ hkn]
                        simp
                      have gf := GB2.frozen k
                      obtain ⟨A2, c2, rfl⟩ := slice_form ou2
                      have F4 := F.step S hkn _ cg2 ov2 ou2 hh2
                      clear G GB2 ou2 ov2 cg2 hh2 R F fv fv' hi1 hz1 hs1 hb1 rm cvl
                      go_wp2_with fail
                      go_roundw
                      case rel => exact ⟨k + 1, _, by omega, by go_num, F4⟩
                      case measure => simp [intOf]; omega
                · have ek : k = n := by omega
                  rw [ek] at F
                  have ki : ¬ (k : Int) < (n : Int) := by omega
                  clear ek hk hkn
                  go_wp2_with fail
                  go_loopw [14] (fun i wr => ∃ k : Nat, k ≤ n ∧ i = .int .i64 k ∧ F2 5 1 w lb n v (fun j => (L j).length) 30 gb n g2 g (fun j => bs (marks j (L j).length)) (fun j => bs (marks j (L j).length ++ marks ((j : Int) + (n : Int)) 64)) (fun j => (L j).length + 64) wr) (fun i _ => n - (intOf i).toNat)
                  case atStart => exact ⟨0, by omega, rfl, F⟩
                  case round =>
                    clear F ki
                    obtain ⟨k, hk, rfl, F⟩ := hrel
                    by_cases hkn : k < n
                    · have ki : (k : Int) < (n : Int) := by omega
                      have hlk := hl k hkn
                      obtain ⟨Av, cv, hvk⟩ := slice_form (F.vown k hkn)
                      go_wp2_with fail
                      go_loopw [15] (fun i wr => ∃ q : Nat, q ≤ (L k).length ∧ i = .int .i64 q ∧ F2 5 1 w lb n v (fun j => (L j).length) 30 gb n g2 g (fun j => bs (marks j (L j).length)) (fun j => bs (marks j (L j).length ++ marks ((j : Int) + (n : Int)) 64)) (fun j => (L j).length + 64) wr) (fun i _ => (L k).length - (intOf i).toNat)
                      case atStart => exact ⟨0, by omega, rfl, F⟩
                      case round =>
                        clear F
                        obtain ⟨q, hq, rfl, F⟩ := hrel
                        obtain ⟨Ag, cg, hgk⟩ := slice_form (F.gown k hkn)
                        have cgl : wr.cell? ⟨gb, k, none⟩ = some (.slice Ag ((L k).length + 64) cg) := by
                          rw [F.gcell.cell, rowTab_get _ _ _ hkn, if_pos hkn, hgk]
                        have cvl : wr.cell? ⟨lb, k, none⟩ = some (.slice Av (L k).length cv) := by rw [S.cell_at F.chg k hkn, hvk]
                        by_cases hqn : q < (L k).length
                        · have qi : (q : Int) < ((L k).length : Int) := by omega
                          have qj : (q : Int) < ((L k).length : Int) + 64 := by omega
                          obtain ⟨oG, lg⟩ := own_bytes (F.gown k hkn)
                          obtain ⟨bg, cpg, hgr, RG, _, _⟩ := oG.row (by omega)
                          have cG := RG.cell q (by omega)
                          rw [List.getElem_append_left (by simpa using hqn), marks_get] at cG
                          rw [hgk] at hgr
                          simp only [Value.slice.injEq] at hgr
                          obtain ⟨rfl, hd1, rfl⟩ := hgr
                          clear hd1 oG lg RG
                          obtain ⟨oV, lv⟩ := own_bytes (F.vown k hkn)
                          obtain ⟨bv, cpv, hvr, RV, _, _⟩ := oV.row (by omega)
                          have cV := RV.cell q (by omega)
                          rw [marks_get] at cV
                          rw [hvk] at hvr
                          simp only [Value.slice.injEq] at hvr
                          obtain ⟨rfl, hd1, rfl⟩ := hvr
                          clear hd1 oV lv RV
                          go_wp2_with fail
                          go_quiet ((go_at_call 59; exact quiet_left (markByte_any _ _ _)))
                          go_wp2_with fail
                          go_roundw
                          case rel => exact ⟨q + 1, by omega, by go_num, F.drewN _⟩
                          case measure => simp [intOf]; omega
                        · have qi : ¬ (q : Int) < ((L k).length : Int) := by omega
                          go_wp2_with fail
                          go_roundw
                          case rel => exact ⟨k + 1, by omega, by go_num, F⟩
                          case measure => simp [intOf]; omega
                    · have ki : ¬ (k : Int) < (n : Int) := by omega
                      go_wp2
                      go_ret
                      exact ⟨rfl, F.chg⟩
end Go.Proofs.YtdkcjmpikmnedaaGreat
