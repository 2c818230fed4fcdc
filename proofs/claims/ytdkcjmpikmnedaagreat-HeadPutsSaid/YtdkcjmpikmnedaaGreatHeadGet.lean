/- The walk through head.Get. -/
import Derived.Test.YtdkcjmpikmnedaaGreatHeadPut
namespace Go.Proofs.YtdkcjmpikmnedaaGreat
open Go.RowKit
set_option linter.unusedSimpArgs false

/-- What head.Put answers. -/
def hputRes (v s g u j nu pg rt sn : Int) : List B8 × Int := if headRight v s g u j pg rt sn then putRes 1 nu 0 (headData v s g u j pg rt sn) else ([], 2)
theorem hputRes_len (v s g u j nu pg rt sn : Int) : (hputRes v s g u j nu pg rt sn).1.length ≤ 40000 := by
  unfold hputRes
  split
  · exact putRes_len _ _ _ _
  · simp
theorem hput_own (v s g u j nu pg rt sn : Int) (w : World) :
    Calls Tryz.prog 30 #[.agg (headCells v s g u j nu pg rt sn)] w fun r w' =>
      ∃ A' c', r = .returned (.tuple #[.slice A' (hputRes v s g u j nu pg rt sn).1.length c', .int .i64 (hputRes v s g u j nu pg rt sn).2]) ∧ OwnB w' w.heap.size (.slice A' (hputRes v s g u j nu pg rt sn).1.length c') (hputRes v s g u j nu pg rt sn).1 ∧ (hputRes v s g u j nu pg rt sn).1.length ≤ c' ∧ Below w.heap.size w w' := by
  unfold hputRes
  by_cases h : headRight v s g u j pg rt sn
  · rw [if_pos h]
    exact hput_right v s g u j nu pg rt sn w h
  · rw [if_neg h]
    refine (hput_bad v s g u j nu pg rt sn w h).mono ?_
    rintro r w' ⟨rfl, hb⟩
    exact ⟨none, 0, rfl, OwnB.nil _ _, Nat.le_refl _, hb⟩
theorem hput_any (v s g u j nu pg rt sn : Int) (w : World) :
    Calls Tryz.prog 30 #[.agg (headCells v s g u j nu pg rt sn)] w fun r w' =>
      ∃ A' c', r = .returned (.tuple #[.slice A' (hputRes v s g u j nu pg rt sn).1.length c', .int .i64 (hputRes v s g u j nu pg rt sn).2]) ∧ Rd w' (fun b => w.heap.size ≤ b) A' (bs (hputRes v s g u j nu pg rt sn).1) ∧ (hputRes v s g u j nu pg rt sn).1.length ≤ c' ∧ Below w.heap.size w w' :=
  (hput_own v s g u j nu pg rt sn w).mono fun _ _ ⟨A', c', h1, h2, h3, h4⟩ => ⟨A', c', h1, h2.rd fun _ hg _ _ => hg, h3, h4⟩

/-- Number k of a head's data. -/
def hNum (d : List B8) (k : Nat) : Nat := said ((d.drop (4 * k)).take 4)
theorem hNum_lt (d : List B8) (k : Nat) : hNum d k < 4294967296 := by
  have := said_lt ((d.drop (4 * k)).take 4)
  unfold hNum
  have hl : ((d.drop (4 * k)).take 4).length ≤ 4 := by rw [List.length_take]; omega
  exact Nat.lt_of_lt_of_le this (Nat.pow_le_pow_right (n := 256) (by omega) hl)
/-- A head's numbers while they are read: k whole ones, then x. -/
def hc (d : List B8) (k : Nat) (x : Nat) (i : Nat) : Int := if i < k then (hNum d i : Int) else if i = k then (x : Int) else 0
abbrev headAt (d : List B8) (nu : Int) (k x : Nat) : Array Value := headCells (hc d k x 0) (hc d k x 1) (hc d k x 2) (hc d k x 3) (hc d k x 4) nu (hc d k x 5) (hc d k x 6) (hc d k x 7)
theorem hc_next (d : List B8) (k i : Nat) : hc d k (hNum d k) i = hc d (k + 1) 0 i := by
  unfold hc
  by_cases h1 : i < k
  · rw [if_pos h1, if_pos (by omega)]
  · by_cases h2 : i = k
    · subst h2; rw [if_neg (by omega), if_pos rfl, if_pos (by omega)]
    · rw [if_neg h1, if_neg h2, if_neg (by omega)]
      split <;> rfl
theorem headAt_next (d : List B8) (nu : Int) (k : Nat) : headAt d nu k (hNum d k) = headAt d nu (k + 1) 0 := by
  unfold headAt
  simp only [hc_next]
theorem headAt_zero (d : List B8) (nu : Int) : headAt d nu 0 0 = headCells 0 0 0 0 0 nu 0 0 0 := rfl
theorem headAt_eight (d : List B8) (nu : Int) : headAt d nu 8 0 = headCells (hNum d 0) (hNum d 1) (hNum d 2) (hNum d 3) (hNum d 4) nu (hNum d 5) (hNum d 6) (hNum d 7) := rfl
theorem headAt_cell {w : World} {b : Nat} {d : List B8} {nu : Int} {k x : Nat} (h : Blk w b 56 (headAt d nu k x)) (hk : k < 8) : w.cell? ⟨b, numOff k, none⟩ = some (.int .i64 (x : Int)) :=
  match k, hk with
  | 0, _ => h.cell 0
  | 1, _ => h.cell 1
  | 2, _ => h.cell 2
  | 3, _ => h.cell 3
  | 4, _ => h.cell 4
  | 5, _ => h.cell 6
  | 6, _ => h.cell 7
  | 7, _ => h.cell 8
theorem headAt_set (d : List B8) (nu : Int) (k x y : Nat) (hk : k < 8) : (headAt d nu k x).setIfInBounds (numOff k) (.int .i64 (y : Int)) = headAt d nu k y :=
  match k, hk with
  | 0, _ => rfl
  | 1, _ => rfl
  | 2, _ => rfl
  | 3, _ => rfl
  | 4, _ => rfl
  | 5, _ => rfl
  | 6, _ => rfl
  | 7, _ => rfl
theorem or_byte64 (n c : Nat) (hc : c < 256) (hn : n < 16777216) : bits .or .i64 ((n : Int) * 256) (c : Int) = ((256 * n + c : Nat) : Int) := by
  have h1 : ((n : Int) * 256) = ((256 * n : Nat) : Int) := by omega
  rw [h1]
  show IntKind.i64.wrap ((BitVec.ofInt 64 ((256 * n : Nat) : Int) ||| BitVec.ofInt 64 (c : Int)).toNat : Int) = _
  rw [BitVec.ofInt_natCast, BitVec.ofInt_natCast, BitVec.toNat_or, BitVec.toNat_ofNat, BitVec.toNat_ofNat, Nat.mod_eq_of_lt (by omega), Nat.mod_eq_of_lt (by omega), show (256 : Nat) = 2 ^ 8 by decide, ← Nat.two_pow_add_eq_or_of_lt (by omega), IntKind.wrap_i64]
  omega

/-- Are these a head's bytes? -/
def isHead (l : List B8) : Prop := isFrame l ∧ l.length = 512 * sectors (hLen l) ∧ hLen l = 32 ∧
  hputRes (hNum (hData l) 0) (hNum (hData l) 1) (hNum (hData l) 2) (hNum (hData l) 3) (hNum (hData l) 4) (hEpoch l) (hNum (hData l) 5) (hNum (hData l) 6) (hNum (hData l) 7) = (l, 0)
/-- What head.Get answers. -/
def HeadPost (w : World) (l : List B8) (r : Ending) (w' : World) : Prop :=
  ((isHead l ∧ r = .returned (.tuple #[.agg (headCells (hNum (hData l) 0) (hNum (hData l) 1) (hNum (hData l) 2) (hNum (hData l) 3) (hNum (hData l) 4) (hEpoch l) (hNum (hData l) 5) (hNum (hData l) 6) (hNum (hData l) 7)), .int .i64 0])) ∨
   (¬ isHead l ∧ r = .returned (.tuple #[.agg (headCells 0 0 0 0 0 0 0 0 0), .int .i64 4]))) ∧ Below w.heap.size w w'
/-- A whole head stored into block b. -/
abbrev setHd (w : World) (b : Nat) (v s g u j nu pg rt sn : Int) : World :=
  ((((((((w.setCell ⟨b, 0, none⟩ (.int .i64 v)).setCell ⟨b, 1, none⟩ (.int .i64 s)).setCell ⟨b, 2, none⟩ (.int .i64 g)).setCell ⟨b, 3, none⟩ (.int .i64 u)).setCell ⟨b, 4, none⟩ (.int .i64 j)).setCell ⟨b, 5, none⟩ (.int .i64 nu)).setCell ⟨b, 6, none⟩ (.int .i64 pg)).setCell ⟨b, 7, none⟩ (.int .i64 rt)).setCell ⟨b, 8, none⟩ (.int .i64 sn)
theorem Blk.setHd {w : World} {b : Nat} {t : TypeId} {a0 a1 a2 a3 a4 a5 a6 a7 a8 : Value} (h : Blk w b t #[a0, a1, a2, a3, a4, a5, a6, a7, a8]) (v s g u j nu pg rt sn : Int) : Blk (Go.Proofs.YtdkcjmpikmnedaaGreat.setHd w b v s g u j nu pg rt sn) b t (headCells v s g u j nu pg rt sn) := by
  have k0 := h.set_ 0 (.int .i64 v)
  simp only [List.setIfInBounds_toArray, List.set_cons_zero] at k0
  have k1 := k0.set_ 1 (.int .i64 s)
  simp only [List.setIfInBounds_toArray, List.set_cons_zero, List.set_cons_succ] at k1
  have k2 := k1.set_ 2 (.int .i64 g)
  simp only [List.setIfInBounds_toArray, List.set_cons_zero, List.set_cons_succ] at k2
  have k3 := k2.set_ 3 (.int .i64 u)
  simp only [List.setIfInBounds_toArray, List.set_cons_zero, List.set_cons_succ] at k3
  have k4 := k3.set_ 4 (.int .i64 j)
  simp only [List.setIfInBounds_toArray, List.set_cons_zero, List.set_cons_succ] at k4
  have k5 := k4.set_ 5 (.int .i64 nu)
  simp only [List.setIfInBounds_toArray, List.set_cons_zero, List.set_cons_succ] at k5
  have k6 := k5.set_ 6 (.int .i64 pg)
  simp only [List.setIfInBounds_toArray, List.set_cons_zero, List.set_cons_succ] at k6
  have k7 := k6.set_ 7 (.int .i64 rt)
  simp only [List.setIfInBounds_toArray, List.set_cons_zero, List.set_cons_succ] at k7
  have k8 := k7.set_ 8 (.int .i64 sn)
  simp only [List.setIfInBounds_toArray, List.set_cons_zero, List.set_cons_succ] at k8
  exact k8
theorem below_setHd {a w : World} {B : Nat} (h : Below B a w) (b : Nat) (hb : B ≤ b) (v s g u j nu pg rt sn : Int) : Below B a (setHd w b v s g u j nu pg rt sn) :=
  ((((((((h.setCell (p := ⟨b, 0, none⟩) hb _).setCell (p := ⟨b, 1, none⟩) hb _).setCell (p := ⟨b, 2, none⟩) hb _).setCell (p := ⟨b, 3, none⟩) hb _).setCell (p := ⟨b, 4, none⟩) hb _).setCell (p := ⟨b, 5, none⟩) hb _).setCell (p := ⟨b, 6, none⟩) hb _).setCell (p := ⟨b, 7, none⟩) hb _).setCell (p := ⟨b, 8, none⟩) hb _
theorem head_size : (Tryz.prog.info? 56).map (·.size) = some 9 := by kernel_rfl

set_option maxRecDepth 100000 in
set_option maxHeartbeats 1600000 in
theorem hget_any (A : Option Addr) (c : Nat) (l : List B8) (P : Nat → Prop) (w : World) (hr : Rd w P A (bs l)) (hl : l.length ≤ 1000000) (hcc : l.length ≤ c) :
    Calls Tryz.prog 36 #[.slice A l.length c] w (HeadPost w l) := by
  have r0 := hr.imp (Q := (· < w.heap.size)) fun b hb _ => hb
  have b1 := (Below.refl w.heap.size w).alloc (Nat.le_refl _) (.cells (headCells 0 0 0 0 0 0 0 0 0) 56)
  have z1 : (w.alloc (.cells (headCells 0 0 0 0 0 0 0 0 0) 56)).heap.size = w.heap.size + 1 := by simp
  have R1 := (Blk.new w 56 (headCells 0 0 0 0 0 0 0 0 0)).alloc (.cells (headCells 0 0 0 0 0 0 0 0 0) 56)
  have H1 := Blk.new (w.alloc (.cells (headCells 0 0 0 0 0 0 0 0 0) 56)) 56 (headCells 0 0 0 0 0 0 0 0 0)
  rw [z1] at H1
  have b2 := b1.alloc b1.size (.cells (headCells 0 0 0 0 0 0 0 0 0) 56)
  have r2 := r0.below b2 fun b hb h => h
  clear b1 z1 hr r0
  go_enter Tryz.func36, Tryz.ntmps36
  go_wp2_with fail
  generalize (w.alloc (.cells (headCells 0 0 0 0 0 0 0 0 0) 56)).alloc (.cells (headCells 0 0 0 0 0 0 0 0 0) 56) = w2 at *
  refine (get_any A c l.length l _ w2 r2 rfl hl hcc).mono ?_
  rintro r w3 ⟨⟨hy, v3, rfl, own3⟩ | ⟨hno, rfl⟩, b3⟩
  · have hlen : (hData l).length = hLen l := hData_length l hy.1 hy.2.2.2.2.2
    obtain ⟨A3, c3, rfl, hc3⟩ := own3.form
    have hh : isHead l ↔ (l.length = 512 * sectors (hLen l) ∧ hLen l = 32 ∧
        hputRes (hNum (hData l) 0) (hNum (hData l) 1) (hNum (hData l) 2) (hNum (hData l) 3) (hNum (hData l) 4) (hEpoch l) (hNum (hData l) 5) (hNum (hData l) 6) (hNum (hData l) 7) = (l, 0)) := ⟨fun h => h.2, fun h => ⟨hy, h⟩⟩
    have hep : hEpoch l ≤ 1099511627776 := hy.2.2.1
    have hq : sectors (hLen l) ≤ 66 := by have := hy.2.1; unfold sectors; omega
    have R3 := R1.below b3 R1.lt
    have H3 := H1.below b3 H1.lt
    have b3' := b2.trans (b3.mono b2.size)
    have r3 := r2.below b3 fun b hb h => Nat.lt_trans h R1.lt
    have rd3 : Rd w3 (fun b => w.heap.size + 1 < b) A3 (bs (hData l)) := own3.rd fun g hg _ _ => Nat.lt_of_lt_of_le H1.lt hg
    rw [hlen]
    generalize hdd : hData l = d at *
    generalize hee : hEpoch l = ep at *
    have HDD := hide hdd
    have HEP := hide hee
    generalize hLen l = n at *
    have HH := hide hh
    have F4 := Blk.new w3 111 #[.int .i64 (hKind l), .int .i64 ep, .int .i64 (hSeq l), .slice A3 n c3]
    have b4 := b3'.alloc b3'.size (.cells #[.int .i64 (hKind l), .int .i64 ep, .int .i64 (hSeq l), .slice A3 n c3] 111)
    have R4 := R3.alloc (.cells #[.int .i64 (hKind l), .int .i64 ep, .int .i64 (hSeq l), .slice A3 n c3] 111)
    have H4 := H3.alloc (.cells #[.int .i64 (hKind l), .int .i64 ep, .int .i64 (hSeq l), .slice A3 n c3] 111)
    have ba := (Below.refl w3.heap.size w3).alloc (Nat.le_refl _) (.cells #[.int .i64 (hKind l), .int .i64 ep, .int .i64 (hSeq l), .slice A3 n c3] 111)
    have r4 := r3.below ba fun b hb _ => hb
    have rd4 := rd3.below ba fun b hb _ => hb
    have hRlt := R3.lt
    have hHlt := H3.lt
    clear R1 R3 H1 H3 b2 b3 b3' r2 r3 rd3 own3 hh hy ba hdd hee
    go_wp2_with fail
    generalize w3.alloc (.cells #[.int .i64 (hKind l), .int .i64 ep, .int .i64 (hSeq l), .slice A3 n c3] 111) = w4 at *
    have hF := F4.lt
    generalize w3.heap.size = fb at *
    by_cases hl1 : l.length = 512 * sectors n
    · have D1 : ((l.length : Int) != (sectors n : Int) * 512) = false := by simp; omega
      have W1 : IntKind.i64.wrap ((sectors n : Int) * 512) = (sectors n : Int) * 512 := IntWalk.i64_in _ (by omega)
      have W2 : IntKind.i64.wrap 32 = 32 := IntWalk.i64_in _ (by omega)
      have HL1 := hide hl1
      clear hl1
      have hlt := F4.lt
      obtain ⟨T, f, ht, hf, hf'⟩ := below_fam w4.heap.size w4
      have C3 : ∀ x, (f x).cell? ⟨fb, 3, none⟩ = some (.slice A3 n c3) := fun x => ((hf x).cell hlt).trans (F4.cell 3)
      have HN : ∀ x, Calls Tryz.prog 70 #[.pointer (some ⟨w.heap.size + 1, 0, none⟩)] (f x) fun e w' => e = .returned (.agg (numPtrs (w.heap.size + 1))) ∧ ∃ y, w' = f y := fun x =>
        (numbers_any _ (f x)).mono fun e w' ⟨he, hb⟩ => ⟨he, hf' w' ((hf x).trans (hb.mono (hf x).size))⟩
      have hx0 := hf' w4.drew (Below.refl _ _).drew
      have HNN := hide HN
      clear HN
      by_cases hn : n = 32
      · subst hn
        refine wp_region_fam f (by kernel_rfl) (by kernel_rfl) hx0 ?_
        repeat (refine wpQuiet_step (fun K hK => ?_); go_simp; first | (refine hK _ ?_; clear hK K) | (apply Exists.intro; refine ⟨fun _ => ?_, hK _ ?_⟩; (go_at_call 70; exact HNN.out _); clear hK K))
        refine wpQuiet_nil ?_
        rintro _ ⟨nq, rfl⟩
        have bq := hf nq
        have R5 := R4.below bq R4.lt
        have H5 := H4.below bq H4.lt
        have F5 := F4.below bq F4.lt
        have r5 := r4.below bq fun b hb _ => hb
        have rd5 := rd4.below bq fun b hb _ => hb
        have b5 := b4.trans (bq.mono b4.size)
        clear C3 HNN hx0 hf hf' R4 H4 F4 r4 rd4 b4 bq D1 W1 W2 hF hlt
        generalize f nq = w5 at *
        clear nq ht f T
        have q1 : w5.cell? ⟨fb, 1, none⟩ = some (.int .i64 ep) := F5.cell 1
        have q5 : w5.cell? ⟨w.heap.size + 1, 5, none⟩ = some (.int .i64 0) := H5.cell 5
        have f5 := H5.frozen 5
        have g6 : w5.grownBy (w5.setCell ⟨w.heap.size + 1, 5, none⟩ (.int .i64 ep)) (some (w.heap.size + 1)) := only_setCell (only_refl _ _) (.inl rfl) _
        have H6 : Blk (w5.setCell ⟨w.heap.size + 1, 5, none⟩ (.int .i64 ep)) (w.heap.size + 1) 56 (headAt d ep 0 0) := by
          have := H5.set_ 5 (.int .i64 ep)
          simp only [List.setIfInBounds_toArray, List.set_cons_zero, List.set_cons_succ] at this
          exact this
        have R6 := R5.grown g6 (by simp)
        have F6 := F5.grown g6 (by simp; omega)
        have r6 := r5.only g6 (fun b hb e => by injection e; omega)
        have rd6 := rd5.only g6 (fun b hb e => by injection e; omega)
        have b6 := b5.trans (below_of_only g6 (by omega) b5.size)
        go_wp2_with fail
        generalize w5.setCell ⟨w.heap.size + 1, 5, none⟩ (.int .i64 ep) = w6 at *
        clear R5 H5 F5 r5 rd5 b5 q1 q5 f5 g6
        refine (numbers_any (w.heap.size + 1) w6).mono ?_
        rintro e w7 ⟨rfl, b7⟩
        have H7 := H6.below b7 H6.lt
        have R7 := R6.below b7 R6.lt
        have F7 := F6.below b7 F6.lt
        have r7 := r6.below b7 fun b hb _ => hb
        have rd7 := rd6.below b7 fun b hb _ => hb
        have b7' := b6.trans (b7.mono b6.size)
        clear H6 R6 F6 r6 rd6 b6 b7
        obtain ⟨db, off, rfl⟩ : ∃ b off, A3 = some ⟨b, off, none⟩ := by
          obtain ⟨b, off, rfl, _⟩ := rd7 (by simp; omega)
          exact ⟨b, off, rfl⟩
        have hc32 : 32 ≤ c3 := by omega
        clear hc3
        go_wp2_with fail
        go_loopw [43] (fun i wr => ∃ k : Nat, k ≤ 8 ∧ i = .int .i64 k ∧ Blk wr (w.heap.size + 1) 56 (headAt d ep k 0) ∧ Blk wr w.heap.size 56 (headCells 0 0 0 0 0 0 0 0 0) ∧
            Blk wr fb 111 #[.int .i64 (hKind l), .int .i64 ep, .int .i64 (hSeq l), .slice (some ⟨db, off, none⟩) 32 c3] ∧ Rd wr (fun b => w.heap.size + 1 < b) (some ⟨db, off, none⟩) (bs d) ∧ Rd wr (· < w.heap.size) A (bs l) ∧ Below w.heap.size w wr) (fun i _ => 8 - (intOf i).toNat)
        case atStart => exact ⟨0, by omega, rfl, H7, R7, F7, rd7, r7, b7'⟩
        case round =>
          clear H7 R7 F7 rd7 r7 b7'
          obtain ⟨k, hk, rfl, H, R, F, rd, r, bw⟩ := hrel
          by_cases hk8 : k < 8
          · have ix := num_index (w.heap.size + 1) k hk8
            have q3 : wr.cell? ⟨fb, 3, none⟩ = some (.slice (some ⟨db, off, none⟩) 32 c3) := F.cell 3
            have W1 : IntKind.i64.wrap (4 * (k : Int)) = 4 * (k : Int) := IntWalk.i64_in _ (by omega)
            have W2 : IntKind.i64.wrap (4 * (k : Int) + 4) = 4 * (k : Int) + 4 := IntWalk.i64_in _ (by omega)
            have i1 : (0 : Int) ≤ 4 * (k : Int) := by omega
            have i2 : 4 * (k : Int) ≤ 4 * (k : Int) + 4 := by omega
            have i3 : 4 * (k : Int) + 4 ≤ (c3 : Int) := by omega
            have i4 : ¬ c3 = 4 * k := by omega
            have i5 : (4 * (k : Int) + 4).toNat - 4 * k = 4 := by omega
            go_wp2_with fail
            go_loopw [56] (fun j wx => ∃ q : Nat, q ≤ 4 ∧ j = .int .i64 q ∧ Blk wx (w.heap.size + 1) 56 (headAt d ep k (said (((d.drop (4 * k)).take 4).take q))) ∧ Blk wx w.heap.size 56 (headCells 0 0 0 0 0 0 0 0 0) ∧
              Blk wx fb 111 #[.int .i64 (hKind l), .int .i64 ep, .int .i64 (hSeq l), .slice (some ⟨db, off, none⟩) 32 c3] ∧ Rd wx (fun b => w.heap.size + 1 < b) (some ⟨db, off, none⟩) (bs d) ∧ Rd wx (· < w.heap.size) A (bs l) ∧ Below w.heap.size w wx) (fun j _ => 4 - (intOf j).toNat)
            case atStart => exact ⟨0, by omega, rfl, H, R, F, rd, r, bw⟩
            case round =>
              clear H R F rd r bw ix q3 W1 W2 i1 i2 i3 i4 i5
              obtain ⟨q, hq4, rfl, H, R, F, rd, r, bw⟩ := hrel
              have hp : ((d.drop (4 * k)).take 4).length = 4 := by rw [List.length_take, List.length_drop, hlen]; omega
              by_cases hlt : q < 4
              · have hpos : 4 * k + q < d.length := by omega
                obtain ⟨db', off', hA, hdb, hcell⟩ := rd (by simp; omega)
                injection hA with hA
                injection hA with e1 e2 e3
                subst e1 e2
                have cq := hcell (4 * k + q) (by simpa using hpos)
                rw [bs_get, ← Nat.add_assoc] at cq
                have hs := said_snoc (((d.drop (4 * k)).take 4).take q) d[4 * k + q]
                have ht : ((d.drop (4 * k)).take 4).take q ++ [d[4 * k + q]] = ((d.drop (4 * k)).take 4).take (q + 1) := by
                  rw [take_snoc _ q (by omega)]
                  congr 2
                  rw [List.getElem_take, List.getElem_drop]
                rw [ht] at hs
                have hsl := said_lt (((d.drop (4 * k)).take 4).take q)
                rw [List.length_take, hp, Nat.min_eq_left (by omega)] at hsl
                have hpow : 256 ^ q ≤ 16777216 := Nat.le_trans (Nat.pow_le_pow_right (n := 256) (by omega) (show q ≤ 3 by omega)) (by decide)
                have hx : said (((d.drop (4 * k)).take 4).take q) < 16777216 := Nat.lt_of_lt_of_le hsl hpow
                generalize d[4 * k + q] = y at *
                have hy := y.isLt
                have cN := headAt_cell H hk8
                have fN := H.frozen (numOff k)
                have HS := hide hs
                have HQ := hide (headAt_set d ep k (said (((d.drop (4 * k)).take 4).take q)) (said (((d.drop (4 * k)).take 4).take (q + 1))) hk8)
                have HOR := hide (or_byte64 (said (((d.drop (4 * k)).take 4).take q)) y.toNat hy hx)
                clear hcell hs ht hsl hpow
                generalize said (((d.drop (4 * k)).take 4).take q) = x at *
                generalize numOff k = o at *
                go_wp2_with fail
                go_roundw
                case rel =>
                  have g := only_setCell (only_refl wr (some (w.heap.size + 1))) (p := ⟨w.heap.size + 1, o, none⟩) (.inl rfl) (.int .i64 (bits .or .i64 ((x : Int) * 256) (y.toNat : Int)))
                  refine ⟨q + 1, by omega, by go_num, ?_, R.grown g (by simp), F.grown g (by simp; omega), rd.only g (fun b hb e => by injection e; omega), r.only g (fun b hb e => by injection e; omega), bw.setCell (by simp) _⟩
                  have := H.set_ o (.int .i64 (bits .or .i64 ((x : Int) * 256) (y.toNat : Int)))
                  rw [HOR.out, ← HS.out, HQ.out] at this
                  rw [HOR.out, ← HS.out]
                  exact this
                case measure => simp [intOf]; omega
              · obtain rfl : q = 4 := by omega
                rw [List.take_of_length_le (by omega)] at H
                have H' : Blk wr (w.heap.size + 1) 56 (headAt d ep (k + 1) 0) := by rw [← headAt_next]; exact H
                go_wp2_with fail
                go_roundw
                case rel => exact ⟨k + 1, by omega, by go_num, H', R, F, rd, r, bw⟩
                case measure => simp [intOf]; omega
          · obtain rfl : k = 8 := by omega
            rw [headAt_eight] at H
            have HIF := HH.out
            have HPUT := hput_any (hNum d 0) (hNum d 1) (hNum d 2) (hNum d 3) (hNum d 4) ep (hNum d 5) (hNum d 6) (hNum d 7) wr
            have HFIN : HeadPost w l = fun r w' => ((isHead l ∧ r = .returned (.tuple #[.agg (headCells (hNum d 0) (hNum d 1) (hNum d 2) (hNum d 3) (hNum d 4) ep (hNum d 5) (hNum d 6) (hNum d 7)), .int .i64 0])) ∨ (¬ isHead l ∧ r = .returned (.tuple #[.agg (headCells 0 0 0 0 0 0 0 0 0), .int .i64 4]))) ∧ Below w.heap.size w w' := by
              unfold HeadPost
              rw [HDD.out, HEP.out]
            have HF := hide HFIN
            clear HFIN HH F rd hlen hq hep
            generalize (hNum d 0 : Int) = n0 at *
            generalize (hNum d 1 : Int) = n1 at *
            generalize (hNum d 2 : Int) = n2 at *
            generalize (hNum d 3 : Int) = n3 at *
            generalize (hNum d 4 : Int) = n4 at *
            generalize (hNum d 5 : Int) = n5 at *
            generalize (hNum d 6 : Int) = n6 at *
            generalize (hNum d 7 : Int) = n7 at *
            have c0 : wr.cell? ⟨w.heap.size + 1, 0, none⟩ = some (.int .i64 n0) := H.cell 0
            have c1 : wr.cell? ⟨w.heap.size + 1, 1, none⟩ = some (.int .i64 n1) := H.cell 1
            have c2 : wr.cell? ⟨w.heap.size + 1, 2, none⟩ = some (.int .i64 n2) := H.cell 2
            have c3 : wr.cell? ⟨w.heap.size + 1, 3, none⟩ = some (.int .i64 n3) := H.cell 3
            have c4 : wr.cell? ⟨w.heap.size + 1, 4, none⟩ = some (.int .i64 n4) := H.cell 4
            have c5 : wr.cell? ⟨w.heap.size + 1, 5, none⟩ = some (.int .i64 ep) := H.cell 5
            have c6 : wr.cell? ⟨w.heap.size + 1, 6, none⟩ = some (.int .i64 n5) := H.cell 6
            have c7 : wr.cell? ⟨w.heap.size + 1, 7, none⟩ = some (.int .i64 n6) := H.cell 7
            have c8 : wr.cell? ⟨w.heap.size + 1, 8, none⟩ = some (.int .i64 n7) := H.cell 8
            have HIFF := hide HIF
            clear HIF
            go_wp2_with fail
            refine HPUT.mono ?_
            clear HPUT c0 c1 c2 c3 c4 c5 c6 c7 c8
            rintro e w9 ⟨A9, c9, rfl, r9, hc9, b9⟩
            have H9 := H.below b9 H.lt
            have R9 := R.below b9 R.lt
            have s9 := r.below b9 fun b hb _ => hb
            have bw9 := bw.trans (b9.mono bw.size)
            clear H R r bw b9
            generalize hputRes n0 n1 n2 n3 n4 ep n5 n6 n7 = RS at *
            obtain ⟨F9, er⟩ := RS
            simp only at r9 hc9 ⊢
            have EQ := hide (equal_any A9 A c9 c F9 l _ _ w9 r9 s9)
            have f9 := R9.frozen
            have z0 : w9.cell? ⟨w.heap.size, 0, none⟩ = some (.int .i64 0) := R9.cell 0
            have z1 : w9.cell? ⟨w.heap.size, 1, none⟩ = some (.int .i64 0) := R9.cell 1
            have z2 : w9.cell? ⟨w.heap.size, 2, none⟩ = some (.int .i64 0) := R9.cell 2
            have z3 : w9.cell? ⟨w.heap.size, 3, none⟩ = some (.int .i64 0) := R9.cell 3
            have z4 : w9.cell? ⟨w.heap.size, 4, none⟩ = some (.int .i64 0) := R9.cell 4
            have z5 : w9.cell? ⟨w.heap.size, 5, none⟩ = some (.int .i64 0) := R9.cell 5
            have z6 : w9.cell? ⟨w.heap.size, 6, none⟩ = some (.int .i64 0) := R9.cell 6
            have z7 : w9.cell? ⟨w.heap.size, 7, none⟩ = some (.int .i64 0) := R9.cell 7
            have z8 : w9.cell? ⟨w.heap.size, 8, none⟩ = some (.int .i64 0) := R9.cell 8
            by_cases her : er = 0
            · subst her
              by_cases heq : F9 = l
              · have hyes := hide (HIFF.out.2 ⟨HL1.out, by trivial, by rw [heq]⟩)
                have HT := hide (decide_eq_true heq)
                clear heq
                have c0 : w9.cell? ⟨w.heap.size + 1, 0, none⟩ = some (.int .i64 n0) := H9.cell 0
                have c1 : w9.cell? ⟨w.heap.size + 1, 1, none⟩ = some (.int .i64 n1) := H9.cell 1
                have c2 : w9.cell? ⟨w.heap.size + 1, 2, none⟩ = some (.int .i64 n2) := H9.cell 2
                have c3 : w9.cell? ⟨w.heap.size + 1, 3, none⟩ = some (.int .i64 n3) := H9.cell 3
                have c4 : w9.cell? ⟨w.heap.size + 1, 4, none⟩ = some (.int .i64 n4) := H9.cell 4
                have c5 : w9.cell? ⟨w.heap.size + 1, 5, none⟩ = some (.int .i64 ep) := H9.cell 5
                have c6 : w9.cell? ⟨w.heap.size + 1, 6, none⟩ = some (.int .i64 n5) := H9.cell 6
                have c7 : w9.cell? ⟨w.heap.size + 1, 7, none⟩ = some (.int .i64 n6) := H9.cell 7
                have c8 : w9.cell? ⟨w.heap.size + 1, 8, none⟩ = some (.int .i64 n7) := H9.cell 8
                go_wp2_with (go_at_call 60; refine EQ.out.mono ?_; rintro r w' ⟨rfl, rfl⟩; rw [HT.out])
                refine bodyPost_ret (v := .tuple #[.agg (headCells n0 n1 n2 n3 n4 ep n5 n6 n7), .int .i64 0]) ?_ rfl (by rw [HF.out]; exact ⟨.inl ⟨hyes.out, rfl⟩, below_setHd bw9 w.heap.size (Nat.le_refl _) n0 n1 n2 n3 n4 ep n5 n6 n7⟩)
                exact results_cell2 (p := 2) (u := 3) rfl _ _ w.heap.size _ _ rfl (R9.setHd n0 n1 n2 n3 n4 ep n5 n6 n7) Tryz.underlying56 rfl head_size
              · have hno := hide (show ¬ isHead l from fun h => heq (congrArg Prod.fst (HIFF.out.1 h).2.2))
                have HT := hide (decide_eq_false heq)
                clear heq
                go_wp2_with (go_at_call 60; refine EQ.out.mono ?_; rintro r w' ⟨rfl, rfl⟩; rw [HT.out])
                refine bodyPost_ret (v := .tuple #[.agg (headCells 0 0 0 0 0 0 0 0 0), .int .i64 4]) ?_ rfl (by rw [HF.out]; exact ⟨.inr ⟨hno.out, rfl⟩, below_setHd bw9 w.heap.size (Nat.le_refl _) 0 0 0 0 0 0 0 0 0⟩)
                exact results_cell2 (p := 2) (u := 3) rfl _ _ w.heap.size _ _ rfl (R9.setHd 0 0 0 0 0 0 0 0 0) Tryz.underlying56 rfl head_size
            · have hno := hide (show ¬ isHead l from fun h => her (congrArg Prod.snd (HIFF.out.1 h).2.2))
              have D9 : (er != 0) = true := by rw [bne_iff_ne]; exact her
              clear her
              go_wp2_with fail
              refine bodyPost_ret (v := .tuple #[.agg (headCells 0 0 0 0 0 0 0 0 0), .int .i64 4]) ?_ rfl (by rw [HF.out]; exact ⟨.inr ⟨hno.out, rfl⟩, below_setHd bw9 w.heap.size (Nat.le_refl _) 0 0 0 0 0 0 0 0 0⟩)
              exact results_cell2 (p := 2) (u := 3) rfl _ _ w.heap.size _ _ rfl (R9.setHd 0 0 0 0 0 0 0 0 0) Tryz.underlying56 rfl head_size
      · have D2 : ((n : Int) != 32) = true := by rw [bne_iff_ne]; omega
        have HNO := hide (show ¬ isHead l from fun h => hn (HH.out.1 h).2.1)
        clear hn
        refine wp_region_fam f (by kernel_rfl) (by kernel_rfl) hx0 ?_
        repeat (refine wpQuiet_step (fun K hK => ?_); go_simp; first | (refine hK _ ?_; clear hK K) | (apply Exists.intro; refine ⟨fun _ => ?_, hK _ ?_⟩; (go_at_call 70; exact HNN.out _); clear hK K))
        refine wpQuiet_nil ?_
        rintro _ ⟨nq, rfl⟩
        have bq := hf nq
        have R5 := R4.below bq R4.lt
        have b5 := b4.trans (bq.mono b4.size)
        clear C3 HNN hx0 hf hf'
        generalize f nq = w5 at *
        have Q0 : w5.cell? ⟨w.heap.size, 0, none⟩ = some (.int .i64 0) := R5.cell 0
        have Q1 : w5.cell? ⟨w.heap.size, 1, none⟩ = some (.int .i64 0) := R5.cell 1
        have Q2 : w5.cell? ⟨w.heap.size, 2, none⟩ = some (.int .i64 0) := R5.cell 2
        have Q3 : w5.cell? ⟨w.heap.size, 3, none⟩ = some (.int .i64 0) := R5.cell 3
        have Q4 : w5.cell? ⟨w.heap.size, 4, none⟩ = some (.int .i64 0) := R5.cell 4
        have Q5 : w5.cell? ⟨w.heap.size, 5, none⟩ = some (.int .i64 0) := R5.cell 5
        have Q6 : w5.cell? ⟨w.heap.size, 6, none⟩ = some (.int .i64 0) := R5.cell 6
        have Q7 : w5.cell? ⟨w.heap.size, 7, none⟩ = some (.int .i64 0) := R5.cell 7
        have Q8 : w5.cell? ⟨w.heap.size, 8, none⟩ = some (.int .i64 0) := R5.cell 8
        have f5 := R5.frozen
        go_wp2_with fail
        refine bodyPost_ret (v := .tuple #[.agg (headCells 0 0 0 0 0 0 0 0 0), .int .i64 4]) ?_ rfl ⟨.inr ⟨HNO.out, rfl⟩, below_setHd b5 w.heap.size (Nat.le_refl _) 0 0 0 0 0 0 0 0 0⟩
        exact results_cell2 (p := 2) (u := 3) rfl _ _ w.heap.size _ _ rfl (R5.setHd 0 0 0 0 0 0 0 0 0) Tryz.underlying56 rfl head_size
    · have D1 : ((l.length : Int) != (sectors n : Int) * 512) = true := by rw [bne_iff_ne]; omega
      have W1 : IntKind.i64.wrap ((sectors n : Int) * 512) = (sectors n : Int) * 512 := IntWalk.i64_in _ (by omega)
      have HNO := hide (show ¬ isHead l from fun h => hl1 (HH.out.1 h).1)
      clear hl1
      go_quiet (fail)
      have R5 := R4.drewN nq
      have b5 := b4.trans (drewN_below w.heap.size _ nq)
      generalize w4.drewN nq = w5 at *
      have Q0 : w5.cell? ⟨w.heap.size, 0, none⟩ = some (.int .i64 0) := R5.cell 0
      have Q1 : w5.cell? ⟨w.heap.size, 1, none⟩ = some (.int .i64 0) := R5.cell 1
      have Q2 : w5.cell? ⟨w.heap.size, 2, none⟩ = some (.int .i64 0) := R5.cell 2
      have Q3 : w5.cell? ⟨w.heap.size, 3, none⟩ = some (.int .i64 0) := R5.cell 3
      have Q4 : w5.cell? ⟨w.heap.size, 4, none⟩ = some (.int .i64 0) := R5.cell 4
      have Q5 : w5.cell? ⟨w.heap.size, 5, none⟩ = some (.int .i64 0) := R5.cell 5
      have Q6 : w5.cell? ⟨w.heap.size, 6, none⟩ = some (.int .i64 0) := R5.cell 6
      have Q7 : w5.cell? ⟨w.heap.size, 7, none⟩ = some (.int .i64 0) := R5.cell 7
      have Q8 : w5.cell? ⟨w.heap.size, 8, none⟩ = some (.int .i64 0) := R5.cell 8
      have f5 := R5.frozen
      go_wp2_with fail
      refine bodyPost_ret (v := .tuple #[.agg (headCells 0 0 0 0 0 0 0 0 0), .int .i64 4]) ?_ rfl ⟨.inr ⟨HNO.out, rfl⟩, below_setHd b5 w.heap.size (Nat.le_refl _) 0 0 0 0 0 0 0 0 0⟩
      exact results_cell2 (p := 2) (u := 3) rfl _ _ w.heap.size _ _ rfl (R5.setHd 0 0 0 0 0 0 0 0 0) Tryz.underlying56 rfl head_size
  · have hnh : ¬ isHead l := fun h => hno h.1
    have HN := hide hnh
    have R3 := R1.below b3 R1.lt
    have b4 := (b2.trans (b3.mono b2.size)).alloc (b2.trans (b3.mono b2.size)).size (.cells #[.int .i64 0, .int .i64 0, .int .i64 0, .slice none 0 0] 111)
    have R4 := R3.alloc (.cells #[.int .i64 0, .int .i64 0, .int .i64 0, .slice none 0 0] 111)
    clear hno hnh R1 R3 H1 b2 b3 r2
    go_wp2_with fail
    generalize w3.alloc (.cells #[.int .i64 0, .int .i64 0, .int .i64 0, .slice none 0 0] 111) = w4 at *
    go_quiet (fail)
    have R5 := R4.drewN nq
    have b5 := b4.trans (drewN_below w.heap.size _ nq)
    generalize w4.drewN nq = w5 at *
    have Q0 : w5.cell? ⟨w.heap.size, 0, none⟩ = some (.int .i64 0) := R5.cell 0
    have Q1 : w5.cell? ⟨w.heap.size, 1, none⟩ = some (.int .i64 0) := R5.cell 1
    have Q2 : w5.cell? ⟨w.heap.size, 2, none⟩ = some (.int .i64 0) := R5.cell 2
    have Q3 : w5.cell? ⟨w.heap.size, 3, none⟩ = some (.int .i64 0) := R5.cell 3
    have Q4 : w5.cell? ⟨w.heap.size, 4, none⟩ = some (.int .i64 0) := R5.cell 4
    have Q5 : w5.cell? ⟨w.heap.size, 5, none⟩ = some (.int .i64 0) := R5.cell 5
    have Q6 : w5.cell? ⟨w.heap.size, 6, none⟩ = some (.int .i64 0) := R5.cell 6
    have Q7 : w5.cell? ⟨w.heap.size, 7, none⟩ = some (.int .i64 0) := R5.cell 7
    have Q8 : w5.cell? ⟨w.heap.size, 8, none⟩ = some (.int .i64 0) := R5.cell 8
    have f5 := R5.frozen
    go_wp2_with fail
    refine bodyPost_ret (v := .tuple #[.agg (headCells 0 0 0 0 0 0 0 0 0), .int .i64 4]) ?_ rfl ⟨.inr ⟨HN.out, rfl⟩, below_setHd b5 w.heap.size (Nat.le_refl _) 0 0 0 0 0 0 0 0 0⟩
    exact results_cell2 (p := 2) (u := 3) rfl _ _ w.heap.size _ _ rfl (R5.setHd 0 0 0 0 0 0 0 0 0) Tryz.underlying56 rfl head_size
end Go.Proofs.YtdkcjmpikmnedaaGreat
