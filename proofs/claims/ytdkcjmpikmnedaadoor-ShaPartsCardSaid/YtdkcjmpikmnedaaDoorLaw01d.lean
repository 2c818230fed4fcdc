/- The walk through ShaParts. -/
import Derived.Test.YtdkcjmpikmnedaaDoorLaw01c
import Derived.Test.YtdkcjmpikmnedaaDoorOver
import Derived.Test.YtdkcjmpikmnedaaDoorRowsAt
namespace Go.Proofs.YtdkcjmpikmnedaaDoor
open Go.RowKit
set_option linter.unusedSimpArgs false

theorem flat_snoc (Ls : List (List B8)) (k : Nat) (h : k < Ls.length) : (Ls.take (k + 1)).flatten = (Ls.take k).flatten ++ Ls.getD k [] := by
  rw [take_snoc _ _ h, List.flatten_append]
  simp [h]
/-- What stands while the parts are written. -/
structure PartsI (w : World) (H S : Nat) (vx all : Value) (t : List B8) (wr : World) : Prop where
  h : IsH wr H S vx t
  own : OwnB wr (H + 1) all t
  apart : ∀ g, all.ownBlock = some g → vx.ownBlock ≠ some g
  bel : Below w.heap.size w wr
  new : w.heap.size ≤ S
theorem flat_le (Ls : List (List B8)) (k m : Nat) (h : ∀ j, j < k → (Ls.getD j []).length ≤ m) (hk : k ≤ Ls.length) : (Ls.take k).flatten.length ≤ m * k := by
  induction k with
  | zero => simp
  | succ k ih =>
    rw [flat_snoc _ _ (by omega), List.length_append, Nat.mul_succ]
    have := ih (fun j hj => h j (by omega)) (by omega)
    have := h k (by omega)
    omega

theorem quiet_load_row {P : Program} {C : World → Prop} {ops : Array Oper} {o : Oper} {a : Act} {K : Act → Prop} {E : Prop} (hw : Region.wanted o (yielded ops a.tmps) = true) (ty : TypeId) (x : Operand) (ho : o.op = .load ty x) (g : Nat) (hx : a.eval x = .pointer (some ⟨g, 0, none⟩)) (t : TypeId) (cs : Array Value) (fr : Nat × Nat) (d : TypeDesc)
    (hg : ∀ w, C w → w.heap[g]? = some (.cells cs t fr)) (hu : P.underlying ty = some d) (hd : (match d with | .struct _ | .array _ _ => true | _ => false) = true) (hi : (P.info? ty).map (·.size) = some cs.size) (h : K (a.put o.dst (.agg cs))) :
    if Region.wanted o (yielded ops a.tmps) = true then o.quiet P a C K else E := by
  rw [if_pos hw]
  refine ⟨.agg cs, fun w hw' => ?_, h⟩
  unfold Oper.quietAt
  rw [exec_load_row ty x ho g hx t cs fr d (hg w hw') hu hd hi]
  exact ⟨rfl, rfl⟩

set_option maxRecDepth 100000 in
set_option maxHeartbeats 3200000 in
theorem shaParts_any (A : Option Addr) (c : Nat) (Ls : List (List B8)) (w : World) (hL : Laid w) (hR : RowsAt w A Ls) :
    Calls Tryd.prog 6 #[.slice A Ls.length c] w fun e w' => e = .returned (.bool true) ∧ Below w.heap.size w w' := by
  have n0 := hL.lt
  by_cases hl : 60 < Ls.length
  · have hli : (60 : Int) < (Ls.length : Int) := by omega
    go_enter Tryd.func6, Tryd.ntmps6
    go_wp2_with fail
    refine (awake_any w hL).mono ?_
    rintro e w1 ⟨rfl, b1⟩
    go_wp2
    go_ret
    exact ⟨rfl, b1⟩
  · have hli : ¬ (60 : Int) < (Ls.length : Int) := by omega
    go_enter Tryd.func6, Tryd.ntmps6
    go_wp2_with fail
    refine (awake_any w hL).mono ?_
    rintro e w1 ⟨rfl, b1⟩
    have hL1 := hL.below b1 n0
    have n1 := b1.size
    go_wp2_with fail
    refine (new_is w1 hL1).mono ?_
    rintro e w2 ⟨rfl, X2, b2⟩
    have bb2 := b1.trans (b2.mono n1)
    have I2 : PartsI w (w1.heap.size + 1) w1.heap.size (.slice none 0 0) (.slice none 0 0) [] w2 := ⟨X2, OwnB.nil _ _, fun g h => by simp [Value.ownBlock] at h, bb2, n1⟩
    clear b1 b2 hL1 X2 bb2
    generalize w1.heap.size = S at *
    go_wp2_with fail
    go_loopw [4, 5] (fun all i wr => ∃ (k : Nat) (vx : Value), k ≤ Ls.length ∧ i = .int .i64 k ∧ (∀ j, j < k → (Ls.getD j []).length ≤ 300) ∧ PartsI w (S + 1) S vx all (Ls.take k).flatten wr) (fun _ i _ => Ls.length - (intOf i).toNat)
    case atStart => exact ⟨0, _, by omega, rfl, fun j hj => by omega, I2⟩
    case round =>
      clear I2
      obtain ⟨k, vx, hk, rfl, h300, I⟩ := hrel
      have hLr := hL.below I.bel n0
      have hfl := flat_le Ls k 300 h300 hk
      by_cases hlt : k < Ls.length
      · obtain ⟨b, off, a1, c1, rfl, hbw, hc, hlc, hrd⟩ := hR k hlt
        have HF := hide (flat_snoc Ls k hlt)
        have HB := hide h300
        have bz := I.bel.size
        have q1 : wr.cell? ⟨b, off + k, none⟩ = _ := (I.bel.cell hbw).trans hc
        have rd1 := hrd.below I.bel fun x _ h => h
        have ki : (k : Int) < (Ls.length : Int) := by omega
        generalize hm : Ls.getD k [] = m at *
        have HM := hide hm
        generalize (Ls.take k).flatten = t at *
        clear hm h300
        by_cases h3 : 300 < m.length
        · have h3i : (300 : Int) < (m.length : Int) := by omega
          go_wp2
          go_ret
          exact ⟨rfl, I.bel⟩
        · have h3i : ¬ (300 : Int) < (m.length : Int) := by omega
          have hm3 : m.length ≤ 300 := by omega
          go_wp2_with fail
          refine (lent_any a1 c1 m _ wr rd1 (by omega)).mono ?_
          rintro e w3 ⟨rfl, ow3, b3⟩
          have X3 := I.h.below b3 (Nat.le_refl _)
          have al3 := I.own.below b3
          have bb3 := I.bel.trans (b3.mono bz)
          have n3 := ow3.lt
          have ev : ∀ g, vx.ownBlock = some g → S + 1 < g ∧ g < wr.heap.size := fun g h => by have := I.h.own.lt g h; omega
          have ea : ∀ g, u4.ownBlock = some g → S + 1 < g ∧ g < wr.heap.size := fun g h => by have := I.own.lt g h; omega
          have nS := I.new
          have hH := I.h.hash.lt
          have ap := I.apart
          clear I
          go_wp2_with fail
          refine (write_any _ _ vx t m _ _ (fun x => x = wr.heap.size) w3 X3 (hL.below bb3 n0).rks (ow3.rdl rfl) (fun x hx => ⟨by omega, by omega, fun h => by have := ev x h.symm; omega⟩) (by omega)).mono ?_
          rintro e w4 ⟨rfl, vy, X4, oy, g4⟩
          have bb4 := bb3.trans (g4.below (B := w.heap.size) (by omega) fun x hx h => by rcases h with h | h | h <;> first | omega | (have := ev x h.symm; omega))
          have al4 := g4.own al3 (fun g hg h => by
            have := ea g hg
            rcases h with h | h | h <;> first | omega | exact ap g hg h.symm)
          have ow4 : RowB w4 wr.heap.size (m.length + 12) (m ++ marks 1 12) := by
            have hb := ow3.blk (by simp)
            have := RowB.of_blk (g4.blk hb (by rintro (h | h | h) <;> first | omega | (have := ev _ h.symm; omega))) (by simp [maxLen]; omega)
            simpa using this
          have rd4 := hrd.below bb4 fun x _ h => h
          have q4 : w4.cell? ⟨b, off + k, none⟩ = _ := (bb4.cell hbw).trans hc
          have n4 := g4.size
          have ey : ∀ g, vy.ownBlock = some g → w3.heap.size ≤ g ∧ g < w4.heap.size := oy.lt
          clear X3 al3 ow3 g4 oy
          go_wp2_with fail
          refine (kept_any _ a1 _ c1 m (fun _ => True) _ w4 (ow4.rd trivial) rd4 (by omega) (by omega)).mono ?_
          rintro e w5 ⟨rfl, d5⟩
          have X5 := X4.below (d5.below w4.heap.size) (Nat.le_refl _)
          have al5 := al4.below (d5.below w4.heap.size)
          have ow5 := ow4.below (d5.below w4.heap.size) ow4.lt
          have bb5 := bb4.trans (d5.below w.heap.size)
          have n5 := (d5.below w4.heap.size).size
          clear X4 al4 ow4 bb4 q4 rd4
          go_wp2_with fail
          refine (over_any wr.heap.size m.length _ w5 ow5 (by simp) (by omega)).mono ?_
          rintro e w6 ⟨rfl, g6⟩
          have cg6 : Chg (fun x => x = wr.heap.size) w5 w6 := Chg.of_grown g6 fun x _ h => by injection h
          have X6 := X5.chg cg6 (by omega) (by omega) (fun g hg h => by have := ey g hg; omega)
          have al6 := cg6.own al5 (fun g hg h => by have := ea g hg; omega)
          have bb6 := bb5.trans (cg6.below (B := w.heap.size) (by omega) fun x hx h => by omega)
          have q6 : w6.cell? ⟨b, off + k, none⟩ = _ := (bb6.cell hbw).trans hc
          have rd6 := hrd.below bb6 fun x _ h => h
          have n6 := cg6.size
          clear X5 al5 ow5 bb5 g6 cg6
          go_wp2_with (with_reducible refine stop_append ?_)
          unfold Stopped
          refine wpList_append_u8 rfl _ _ rfl (S + 1 + 1) u4 t rfl al6 _ a1 m.length c1 m rfl rfl rd6 (by omega) (by omega) ?_
          intro al7 w7 o7 g7 hv7
          have cg7 : Chg (fun x => some x = u4.ownBlock) w6 w7 := Chg.of_grown g7 fun x _ h => h
          have X7 := X6.chg cg7 (fun h => by have := ea _ h.symm; omega) (fun h => by have := ea _ h.symm; omega) (fun g hg h => by have := ey g hg; have := ea g h.symm; omega)
          have bb7 := bb6.trans (cg7.below (B := w.heap.size) (by omega) fun x hx h => by have := ea x h.symm; omega)
          have I7 : PartsI w (S + 1) S vy al7 (t ++ m) w7 := ⟨X7, o7, fun g hg h => by
            have e1 := ey g h
            rcases hv7 with e | e
            · have := ea g (by rw [← e]; exact hg)
              omega
            · rw [e] at hg
              injection hg with hg
              omega, bb7, nS⟩
          clear X6 al6 X7 o7 g7 cg7 bb7
          go_wp2_with fail
          go_roundw
          case rel =>
            refine ⟨k + 1, vy, by omega, by go_num, fun j hj => ?_, by rw [HF.out]; exact I7⟩
            rcases Nat.lt_or_ge j k with h | h
            · exact HB.out j h
            · have e : j = k := by omega
              rw [e, HM.out]
              exact hm3
          case measure => simp [intOf]; omega
      · have ek : k = Ls.length := by omega
        have ki : ¬ (k : Int) < (Ls.length : Int) := by omega
        have ht : (Ls.take k).flatten.length ≤ 18000 := by omega
        obtain ⟨A1, c1, rfl, hc1⟩ := I.own.form
        generalize (Ls.take k).flatten = t at *
        have EQ := digest_same t
        go_wp2_with fail
        refine (sum_first _ _ vx t wr I.h hLr.rks (by omega)).mono ?_
        rintro e w3 ⟨rfl, T3, g3⟩
        have ev : ∀ g, vx.ownBlock = some g → S + 1 < g ∧ g < wr.heap.size := fun g h => by have := I.h.own.lt g h; omega
        have ea : ∀ g, (Value.slice A1 t.length c1).ownBlock = some g → S + 1 < g ∧ g < wr.heap.size := fun g h => by have := I.own.lt g h; omega
        have nS := I.new
        have o3 := g3.own I.own (fun g hg h => by
          have := ea g hg
          rcases h with h | h | h <;> first | omega | exact I.apart g hg h.symm)
        have bb3 := I.bel.trans (g3.below (B := w.heap.size) I.bel.size fun x hx h => by rcases h with h | h | h <;> first | omega | (have := ev x h.symm; omega))
        have HD := hide (show (bs (digest t)).toArray.size = 32 by rw [List.size_toArray, bs_length, digest_length])
        have n3 := g3.size
        have HI := hide (And.intro ev ea)
        clear I g3 ev ea
        go_wp2_with (with_reducible refine stop_store_key ?_)
        unfold Stopped
        refine wpList_store_row rfl _ _ _ rfl w3.heap.size (bs (digest t)).toArray (by rfl) (by rfl) _ _ (Blk.new w3 _ _) (by rw [HD.out]; kernel_rfl) (by rw [HD.out]; rfl) (all_oneCell_toArray (bs_one _)) ?_
        rw [World.setRow_alloc_new]
        have K4 := Blk.new w3 26 (bs (digest t)).toArray
        have bA : Below w3.heap.size w3 (w3.alloc (.cells (bs (digest t)).toArray 26)) := (Below.refl _ _).alloc (Nat.le_refl _) _
        have T4 := T3.below bA (Nat.le_refl _)
        have o4 := o3.below bA
        have bb4 := bb3.trans (bA.mono bb3.size)
        have hL4 := hL.below bb4 n0
        clear T3 o3 bb3 bA
        generalize w3.alloc (.cells (bs (digest t)).toArray 26) = w4 at *
        generalize w3.heap.size = ka at *
        have k4 := K4.lt
        go_wp2_with fail
        obtain ⟨T, f, ht', hf, hf'⟩ := below_fam w4.heap.size w4
        have FL : ∀ x, Laid (f x) := fun x => hL4.below (hf x) hL4.lt
        have FT : ∀ x, IsT (f x) (S + 1) S vx t := fun x => T4.below (hf x) (Nat.le_refl _)
        have FO : ∀ x, OwnB (f x) (S + 1 + 1) (.slice A1 t.length c1) t := fun x => o4.below (hf x)
        have FK : ∀ x, Blk (f x) ka 26 (bs (digest t)).toArray := fun x => K4.below (hf x) k4
        have G1 : ∀ x, Calls Tryd.prog 10 #[.slice A1 t.length c1] (f x) fun e w' => e = .returned (.agg (bs (digest t)).toArray) ∧ ∃ y, w' = f y := fun x =>
          (shaSum_any A1 c1 t (fun _ => True) (f x) (FL x) ((FO x).rd fun _ _ _ _ => trivial) (by omega)).mono fun e w' ⟨he, hb⟩ => ⟨he, hf' w' ((hf x).trans (hb.mono (hf x).size))⟩
        have G2 : ∀ x, Calls Tryd.prog 14 #[.pointer (some ⟨S + 1, 0, none⟩), .slice A1 t.length c1] (f x) fun e w' => e = .returned (.int .i64 8) ∧ ∃ y, w' = f y := fun x =>
          (write_told _ _ _ _ _ _ _ _ (f x) (FT x).hash).mono fun e w' ⟨he, hb⟩ => ⟨he, x, hb.symm⟩
        have G3 : ∀ x, Calls Tryd.prog 15 #[.pointer (some ⟨S + 1, 0, none⟩)] (f x) fun e w' => e = .returned (.agg (bs (digest t)).toArray) ∧ ∃ y, w' = f y := fun x =>
          (sum_again _ _ vx t (f x) (FT x)).mono fun e w' ⟨he, hb⟩ => ⟨he, hf' w' ((hf x).trans (hb.mono (hf x).size))⟩
        have hx0 := hf' w4.drew (Below.refl _ _).drew
        have HG := hide (And.intro G1 (And.intro G2 G3))
        have HB := hide (And.intro bb4 hf)
        clear G1 G2 G3 FL FT FO bb4 hf hf' hL4 T4 o4 K4
        refine wp_region_fam f (by kernel_rfl) (by kernel_rfl) hx0 ?_
        have FK2 := hide (show ∀ w, (∃ x, w = f x) → w.heap[ka]? = some (.cells (bs (digest t)).toArray 26 (0, 0)) from fun w ⟨x, hx⟩ => hx ▸ FK x)
        clear FK
        repeat (refine wpQuiet_step (fun K hK => ?_); first | (refine quiet_load_row (by rfl) 26 _ (by rfl) ka (by rfl) _ _ _ _ FK2.out Tryd.underlying26 rfl (by rw [HD.out]; kernel_rfl) ?_; refine hK _ ?_; clear hK K) | (go_simp; first | (refine hK _ ?_; clear hK K) | (apply Exists.intro; refine ⟨fun _ => ?_, hK _ ?_⟩; (first | (go_at_call 10; exact HG.out.1 _) | (go_at_call 14; exact HG.out.2.1 _) | (go_at_call 15; exact HG.out.2.2 _)); clear hK K)))
        refine wpQuiet_nil ?_
        rintro _ ⟨nq, rfl⟩
        go_wp2
        go_ret
        exact ⟨rfl, HB.out.1.trans ((HB.out.2 nq).mono HB.out.1.size)⟩
end Go.Proofs.YtdkcjmpikmnedaaDoor
