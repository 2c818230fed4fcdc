/- The walk through the reference's Sum. -/
import Derived.Test.YtdkcjmpikmnedaaDoorShaRefB
import Derived.Test.YtdkcjmpikmnedaaDoorShaRefP
namespace Go.Proofs.YtdkcjmpikmnedaaDoor
open Go.RowKit
set_option linter.unusedSimpArgs false

theorem stop_load26 {P : Program} {ops : Array Oper} {Q : Exit → Act → World → Prop} {rest : List Oper} {a : Act} {w : World} {d : Option Tmp} {ty : TypeId} {pos : String} {after : Array Edge} {g : Option (Nat × Bool)} {x : Operand}
    (h : Stopped (wpList P ops Q ({ dst := d, op := .load 26 x, type := ty, pos := pos, after := after, guard := g } :: rest) a w)) :
    wpList P ops Q ({ dst := d, op := .load 26 x, type := ty, pos := pos, after := after, guard := g } :: rest) a w := h
theorem Wds.load8 {w : World} {g : Nat} {s : Wds} (h : Blk w g 58 s.cs) : (Instr.loadAt 58 (.pointer (some ⟨g, 0, none⟩))).run Tryd.prog w = .ok (.agg s.cs) w := by
  have := run_loadAt_mid (P := Tryd.prog) w g 0 58 (w32 s.ws) _ (fun j v hv => by rw [Nat.zero_add, h.cell]; simpa [Wds.cs] using hv) Tryd.underlying58 rfl (by rw [w32_length]; kernel_rfl)
  exact this

theorem exec_load_row {P : Program} {op : Oper} {a : Act} {w : World} (ty : TypeId) (x : Operand) (ho : op.op = .load ty x) (g : Nat) (hx : a.eval x = .pointer (some ⟨g, 0, none⟩)) (t : TypeId) (cs : Array Value) (fr : Nat × Nat) (d : TypeDesc)
    (hg : w.heap[g]? = some (.cells cs t fr)) (hu : P.underlying ty = some d) (hd : (match d with | .struct _ | .array _ _ => true | _ => false) = true) (hi : (P.info? ty).map (·.size) = some cs.size) : (execOp a.eval op).run P w = .ok (.value (.agg cs)) w := by
  unfold execOp
  simp only [ho, hx, Instr.loadAt, Instr.sureAddr, Sem.run_bind, Sem.run_pure, Result.andThen_ok, run_loadVar_row w g t ty cs fr d hg hu hd hi]

set_option maxRecDepth 100000 in
set_option maxHeartbeats 3200000 in
theorem rsum_any (A : Option Addr) (c : Nat) (l : List B8) (P : Nat → Prop) (w : World) (hr : Rd w P A (bs l)) (hl : l.length ≤ 1099511627776) :
    Calls Tryd.prog 11 #[.slice A l.length c] w fun e w' => e = .returned (.agg (bs (digest l)).toArray) ∧ Below w.heap.size w w' := by
  have b1 : Below w.heap.size w (w.alloc (.cells (bs nokey).toArray 26)) := (Below.refl _ _).alloc (Nat.le_refl _) _
  have B1 := Blk.new w 26 (bs nokey).toArray
  have z1 : (w.alloc (.cells (bs nokey).toArray 26)).heap.size = w.heap.size + 1 := by simp
  have HP := hide (padded_any A c l _ _ (hr.old b1) hl)
  have pl := pad_length l
  have PL := hide pl
  clear pl
  go_enter Tryd.func11, Tryd.ntmps11
  go_wp2_with (go_at_call 19; refine Calls.mono HP.out ?_; rintro e w2 ⟨A2, c2, rfl, o2, hc2, b2⟩)
  rw [z1] at o2 b2
  clear HP z1
  have B2 := B1.below b2 (by omega)
  have bb2 := b1.trans (b2.mono (by omega))
  have R2 : Rd w2 (fun b => w.heap.size < b ∧ b < w2.heap.size) A2 (bs (pad l)) := o2.rd fun g h1 h2 _ => ⟨by omega, h2⟩
  have n2 : w.heap.size < w2.heap.size := by have := b2.size; simp at this; omega
  clear o2 b1 B1 b2
  go_wp2_with fail
  refine (begin_any w2).mono ?_
  rintro e w3 ⟨rfl, b3⟩
  have n3 := b3.size
  go_wp2_with (with_reducible refine stop_store8 ?_)
  unfold Stopped
  refine wpList_store_row rfl _ _ _ rfl w3.heap.size wFirst.cs (by rfl) (by rfl) _ _ (Blk.new w3 _ _) (by kernel_rfl) (by kernel_rfl) (cs_one _) ?_
  rw [World.setRow_alloc_new]
  have H4 := Blk.new w3 58 wFirst.cs
  have B4 := (B2.below b3 n2).alloc (.cells wFirst.cs 58)
  have bb4 := (bb2.trans (b3.mono (by omega))).alloc (by omega) (.cells wFirst.cs 58)
  have R4 : Rd (w3.alloc (.cells wFirst.cs 58)) (fun b => w.heap.size < b ∧ b < w3.heap.size) A2 (bs (pad l)) := ((R2.below b3 fun b _ h => h.2).imp fun b _ h => ⟨h.1, by omega⟩).below ((Below.refl _ _).alloc (Nat.le_refl _) _) fun b _ h => h.2
  clear B2 bb2 R2 b3 hr
  generalize w3.alloc (.cells wFirst.cs 58) = w4 at *
  generalize w3.heap.size = hb at *
  have plb : (pad l).length ≤ l.length + 72 := PL.out.2.2
  have DG := hide (show blkN wFirst (pad l) ((pad l).length / 64) = blks wFirst (pad l) from rfl)
  have PM := hide (show (pad l).length % 64 = 0 from PL.out.1)
  have DK := hide (show (blks wFirst (pad l)).key = digest l from rfl)
  generalize pad l = p at *
  have PL2 := hide (show 0 < p.length by have := PL.out; omega)
  clear PL
  go_wp2_with fail
  go_loopw [5] (fun i wr => ∃ n : Nat, 64 * n ≤ p.length ∧ i = .int .i64 (64 * n : Nat) ∧ Blk wr hb 58 (blkN wFirst p n).cs ∧ Blk wr w.heap.size 26 (bs nokey).toArray ∧ Below w.heap.size w wr ∧ Rd wr (fun b => w.heap.size < b ∧ b < hb) A2 (bs p)) (fun i _ => p.length + 64 - (intOf i).toNat)
  case atStart => exact ⟨0, by omega, rfl, H4, B4, bb4, R4⟩
  case round =>
    clear H4 B4 bb4 R4
    obtain ⟨n, hn, rfl, H, B, bb, R⟩ := hrel
    have nh := H.lt
    obtain ⟨q, hq⟩ : ∃ q, q = 64 * n := ⟨_, rfl⟩
    rw [← hq] at hn
    rw [← hq]
    have HQ := hide hq
    clear hq
    by_cases hlt : q < p.length
    · have hq64 : q + 64 ≤ p.length := by have := PM.out; have := HQ.out; omega
      have LD := Wds.load8 H
      have i1 : (q : Int) < (p.length : Int) := by omega
      have i2 : IntKind.i64.wrap ((q : Int) + 64) = (q : Int) + 64 := by rw [IntKind.wrap_i64]; omega
      have i3 : (q : Int) + 64 ≤ (c2 : Int) := by omega
      have i4 : (q : Int) ≤ (q : Int) + 64 := by omega
      have i9 : ((q : Int) + 64).toNat - q = 64 := by omega
      have RC := (R.cut q c2 (by simpa using hc2)).take 64
      rw [← bs_drop, ← bs_take] at RC
      have ml : ((p.drop q).take 64).length = 64 := by rw [List.length_take, List.length_drop]; omega
      have NB := hide (show blkN wFirst p (n + 1) = comp (blkN wFirst p n) ((p.drop (64 * n)).take 64) from rfl)
      rw [← HQ.out] at NB
      generalize blkN wFirst p n = s at *
      generalize (p.drop q).take 64 = m at *
      go_wp2_with fail
      refine wp_region_sink 7 (fun wx => Blk wx hb 58 s.cs) (by kernel_rfl) H.drew (fun hHeld => ?_)
      refine sink_take (i := 0) (oi := _) (v := .agg s.cs) rfl (by kernel_rfl) (by decide) (by kernel_rfl) (by kernel_rfl) (by kernel_rfl) (by kernel_rfl) (fun _ _ _ h => h) (by rfl) (fun wx hSw => ?_) hHeld ?_
      · exact exec_load_row _ _ rfl hb rfl _ _ _ _ hSw Tryd.underlying58 rfl (by rw [Wds.cs_size]; kernel_rfl)
      simp only [List.getElem_toArray, List.getElem_cons_zero, Act.put, List.setIfInBounds_toArray, List.set_cons_zero, List.set_cons_succ]
      refine sink_take (i := 1) (oi := _) (v := ?_) rfl (by kernel_rfl) (by decide) (by kernel_rfl) (by kernel_rfl) (by kernel_rfl) (by kernel_rfl) (fun _ _ _ h => h) (by rfl) (fun wx hSw => ?_) hHeld ?_
      rotate_left
      · go_simp
        with_reducible rfl
      try simp only [Act.put, List.setIfInBounds_toArray, List.set_cons_zero, List.set_cons_succ]
      refine sink_take (i := 2) (oi := _) (v := ?_) rfl (by kernel_rfl) (by decide) (by kernel_rfl) (by kernel_rfl) (by kernel_rfl) (by kernel_rfl) (fun _ _ _ h => h) (by rfl) (fun wx hSw => ?_) hHeld ?_
      rotate_left
      · go_simp
        with_reducible rfl
      try simp only [Act.put, List.setIfInBounds_toArray, List.set_cons_zero, List.set_cons_succ]
      refine sink_take (i := 3) (oi := _) (v := ?_) rfl (by kernel_rfl) (by decide) (by kernel_rfl) (by kernel_rfl) (by kernel_rfl) (by kernel_rfl) (fun _ _ _ h => h) (by rfl) (fun wx hSw => ?_) hHeld ?_
      rotate_left
      · go_simp
        with_reducible rfl
      try simp only [Act.put, List.setIfInBounds_toArray, List.set_cons_zero, List.set_cons_succ]
      refine sink_take (i := 4) (oi := _) (v := ?_) rfl (by kernel_rfl) (by decide) (by kernel_rfl) (by kernel_rfl) (by kernel_rfl) (by kernel_rfl) (fun _ _ _ h => h) (by rfl) (fun wx hSw => ?_) hHeld ?_
      rotate_left
      · go_simp
        with_reducible rfl
      try simp only [Act.put, List.setIfInBounds_toArray, List.set_cons_zero, List.set_cons_succ]
      refine sink_take (i := 5) (oi := _) (v := ?_) rfl (by kernel_rfl) (by decide) (by kernel_rfl) (by kernel_rfl) (by kernel_rfl) (by kernel_rfl) (fun _ _ _ h => h) (by rfl) (fun wx hSw => ?_) hHeld ?_
      rotate_left
      · go_simp
        with_reducible rfl
      try simp only [Act.put, List.setIfInBounds_toArray, List.set_cons_zero, List.set_cons_succ]
      refine sink_ready (rs := [6]) (by kernel_rfl) (by simp) (ReadyL.cons (o := _) rfl (fun K hK => ?_) ReadyL.nil)
      go_simp
      have RBK := rblock_any s _ (c2 - q) m _ wr.drew (by omega) RC.drew
      rw [ml] at RBK
      have HRB := hide RBK
      clear RBK
      refine HRB.out.mono ?_
      rintro e w7 ⟨rfl, b7⟩
      clear HRB
      dsimp only
      refine hK.out _ _ (hHeld.below b7 nh) (fun hHeld => ?_)
      clear hK K
      try simp only [Act.put, List.setIfInBounds_toArray, List.set_cons_zero, List.set_cons_succ]
      refine sink_last (by kernel_rfl) rfl (by kernel_rfl) (by kernel_rfl) (fun K hK => ?_)
      rw [if_pos (by rfl)]
      refine wp_store_row _ _ _ rfl hb (comp s m).cs (by rfl) (by rfl) _ _ hHeld (by rw [Wds.cs_size]; kernel_rfl) (by rw [Wds.cs_size, Wds.cs_size]) (cs_one _) ?_
      refine hK.out _ _ ?_
      clear hK K
      try simp only [Act.put, List.setIfInBounds_toArray, List.set_cons_zero, List.set_cons_succ]
      have H8 := blk_setRow hHeld (comp s m).cs
      have cg := Chg.setRow w7 hb (comp s m).cs
      have hbn : w.heap.size < hb := by omega
      have B8 := cg.blk (B.drew.below b7 (by have := B.lt; exact this)) (by omega)
      have bb8 := (bb.drew.trans (b7.mono bb.size)).trans (cg.below (B := w.heap.size) (Nat.le_trans bb.size b7.size) fun b hb e => by omega)
      have R8 := cg.rd (R.drew.below b7 fun b hb _ => hb) fun b h e => by have := h.2; omega
      rw [← NB.out] at H8 B8 bb8 R8
      rw [← NB.out]
      clear H B bb R b7 cg
      generalize w7.setRow hb (blkN wFirst p (n + 1)).cs = w8 at *
      go_wp2_with fail
      go_roundw
      case rel => exact ⟨n + 1, by have := HQ.out; omega, by have := HQ.out; go_num, H8, B8, bb8, R8⟩
      case measure => simp [intOf]; omega
    · have en : n = p.length / 64 := by have := HQ.out; have := PM.out; omega
      rw [en, DG.out] at H
      have hbn : w.heap.size < hb := by
        rcases Nat.lt_or_ge w.heap.size hb with h | h
        · exact h
        · obtain ⟨b, off, _, hb2, _⟩ := R (by simp; have := PL2.out; omega)
          omega
      generalize blks wFirst p = s at *
      have O1 := Blk.new wr 26 (keyC s 0)
      have H1 := H.alloc (.cells (keyC s 0) 26)
      have B1 := B.alloc (.cells (keyC s 0) 26)
      have bb1 := bb.alloc bb.size (.cells (keyC s 0) 26)
      clear H B bb R en
      have i0 : ¬ (q : Int) < (p.length : Int) := by omega
      go_wp2_with fail
      generalize wr.heap.size = ob at *
      go_loopw [7] (fun i wq => ∃ n : Nat, n ≤ 8 ∧ i = .int .i64 n ∧ Blk wq ob 26 (keyC s (4 * n)) ∧ Blk wq hb 58 s.cs ∧ Blk wq w.heap.size 26 (bs nokey).toArray ∧ Below w.heap.size w wq) (fun i _ => 8 - (intOf i).toNat)
      case atStart => exact ⟨0, by omega, rfl, O1, H1, B1, bb1⟩
      case round =>
        clear O1 H1 B1 bb1
        obtain ⟨n, hn8, rfl, O, H, B, bb⟩ := hrel
        by_cases hlt8 : n < 8
        · have l8 : (n : Int) < 8 := by omega
          go_wp2_with fail
          go_loopw [8] (fun k wq => ∃ j : Nat, j ≤ 4 ∧ k = .int .i64 j ∧ Blk wq ob 26 (keyC s (4 * n + j)) ∧ Blk wq hb 58 s.cs ∧ Blk wq w.heap.size 26 (bs nokey).toArray ∧ Below w.heap.size w wq) (fun k _ => 4 - (intOf k).toNat)
          case atStart => exact ⟨0, by omega, rfl, O, H, B, bb⟩
          case round =>
            clear O H B bb
            obtain ⟨j, hj4, rfl, O, H, B, bb⟩ := hrel
            by_cases hj : j < 4
            · obtain ⟨ix, eix⟩ : ∃ x, x = 4 * n + j := ⟨_, rfl⟩
              rw [← eix] at O
              have KS := hide (keyC_set s ix (by omega))
              have g0 : wr.cell? ⟨ob, ix, none⟩ = some (.int .u8 0) := (O.cell ix).trans (keyC_new s ix (by omega))
              have f0 := O.frozen ix
              have cn : wr.cell? ⟨hb, n, none⟩ = _ := (H.cell n).trans (s.cs_at n hlt8)
              have KG := hide (show s.key.getD ix 0 = ((s.ws.getD n 0) >>> (24 - 8 * j)).setWidth 8 by rw [key_get s ix (by omega), show ix / 4 = n by omega, show 24 - ix % 4 * 8 = 24 - 8 * j by omega])
              generalize s.ws.getD n 0 = x at *
              obtain ⟨sh, esh⟩ : ∃ e, e = 24 - 8 * j := ⟨_, rfl⟩
              rw [← esh] at KG
              have v1 : (24 : Int) - 8 * (j : Int) = (sh : Int) := by omega
              have v2 : IntKind.u64.wrap (sh : Int) = (sh : Int) := by rw [IntKind.wrap_u64]; omega
              have v3 : IntKind.i64.wrap (4 * (n : Int)) = 4 * (n : Int) := by rw [IntKind.wrap_i64]; omega
              have v4 : (4 * (n : Int) + (j : Int)) = (ix : Int) := by omega
              have v5 : IntKind.i64.wrap (ix : Int) = (ix : Int) := by rw [IntKind.wrap_i64]; omega
              have v6 : (ix : Int) < 32 := by omega
              have l4 : (j : Int) < 4 := by omega
              have HE := hide (And.intro eix esh)
              clear eix esh
              go_wp2_with fail
              go_roundw
              case rel =>
                rw [key_val x sh, ← KG.out]
                have O2 := O.set_ ix (.int .u8 ((s.key.getD ix 0).toNat : Int))
                rw [KS.out] at O2
                obtain ⟨e1, _⟩ := HE.out
                exact ⟨j + 1, by omega, by go_num, by rw [show 4 * n + (j + 1) = ix + 1 by omega]; exact O2, H.far (by simp; omega) _, B.far (by simp; omega) _, bb.setCell (p := ⟨ob, ix, none⟩) (by simp; omega) _⟩
              case measure => simp [intOf]; omega
            · have O4 : Blk wr ob 26 (keyC s (4 * (n + 1))) := by
                have e : 4 * n + j = 4 * (n + 1) := by omega
                rw [e] at O
                exact O
              clear O
              go_wp2_with fail
              go_roundw
              case rel => exact ⟨n + 1, by omega, by go_num, O4, H, B, bb⟩
              case measure => simp [intOf]; omega
        · have O8 : Blk wr ob 26 (bs (digest l)).toArray := by
            have e : 4 * n = 32 := by omega
            rw [e, keyC_full, DK.out] at O
            exact O
          have dl : (bs (digest l)).toArray.size = 32 := by rw [List.size_toArray, bs_length, digest_length]
          have HD := hide dl
          clear dl O
          go_wp2_with (with_reducible refine stop_load26 ?_)
          unfold Stopped
          refine wpList_load_row rfl _ _ rfl ob (by rfl) _ _ _ _ O8 Tryd.underlying26 rfl (by rw [HD.out]; kernel_rfl) ?_
          refine wpList_store_row rfl _ _ _ rfl w.heap.size (bs (digest l)).toArray (by rfl) (by rfl) _ _ B (by rw [HD.out]; kernel_rfl) (by rw [HD.out]; rfl) (all_oneCell_toArray (bs_one _)) ?_
          have B9 := blk_setRow B (bs (digest l)).toArray
          have b9 := bb.trans ((Chg.setRow wr w.heap.size (bs (digest l)).toArray).below bb.size fun b hb e => by omega)
          generalize wr.setRow w.heap.size (bs (digest l)).toArray = w9 at *
          go_wp2
          refine bodyPost_ret (v := .agg (bs (digest l)).toArray) ?_ rfl ⟨rfl, b9⟩
          exact results_cell_row rfl _ _ w.heap.size _ _ _ _ rfl B9 Tryd.underlying26 rfl (by rw [HD.out]; kernel_rfl)
end Go.Proofs.YtdkcjmpikmnedaaDoor
