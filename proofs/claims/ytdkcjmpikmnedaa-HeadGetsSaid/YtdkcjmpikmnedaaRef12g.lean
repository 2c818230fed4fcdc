/- The walk through the reference's head.Get. -/
import Derived.Test.YtdkcjmpikmnedaaRef12p
namespace Go.Proofs.Ytdkcjmpikmnedaa
open Go.RowKit
attribute [local go_sem ↓] Go.wp_at_zero Go.wp_at_succ
set_option linter.unusedSimpArgs false

theorem int_info : (Try.prog.info? 3).map (fun i => (i.zero, i.size, i.bytes)) = some (some (.int .i64 0), 1, 8) := by kernel_rfl
/-- A row of numbers of the call's own. -/
def OwnI (w : World) (base : Nat) (v : Value) (xs : List Value) : Prop := w.ownsRow base 3 1 v xs.length xs ∧ ∀ u ∈ xs, u.oneCell' = true
theorem OwnI.nil (w : World) (base : Nat) : OwnI w base (.slice none 0 0) [] := ⟨World.ownsRow_nil _ _ _ _, by simp⟩
theorem OwnI.alloc {w : World} {base : Nat} {v : Value} {xs : List Value} (h : OwnI w base v xs) (o : Obj) : OwnI (w.alloc o) base v xs := ⟨World.ownsRow.alloc h.1 o, h.2⟩
theorem OwnI.drew {w : World} {base : Nat} {v : Value} {xs : List Value} (h : OwnI w base v xs) : OwnI w.drew base v xs := h
theorem OwnI.lt {w : World} {base : Nat} {v : Value} {xs : List Value} (h : OwnI w base v xs) : ∀ k, v.ownBlock = some k → base ≤ k ∧ k < w.heap.size := World.ownsRow.lt h.1
theorem OwnI.row {w : World} {base : Nat} {v : Value} {xs : List Value} (h : OwnI w base v xs) (h0 : 0 < xs.length) : ∃ g cap, v = .slice (some ⟨g, 0, none⟩) xs.length cap ∧ xs.length ≤ cap ∧ base ≤ g ∧ g < w.heap.size ∧ ∀ j (hj : j < xs.length), w.cell? ⟨g, j, none⟩ = some xs[j] := by
  rcases id h.1.2 with ⟨_, hn⟩ | ⟨g, cap, cur, rfl, hb, hg, hc, _⟩
  · omega
  · refine ⟨g, cap, rfl, hc, hb, (Array.getElem?_eq_some_iff.1 hg).1, fun j hj => ?_⟩
    rw [World.ownsRow.cellAt h.1 j (by omega), List.getElem?_eq_getElem hj]
/-- append of numbers as a step of a region that draws. -/
theorem step_append_int {w : World} {ops : Array Oper} {o : Oper} {a : Act} {K : Act → World → Prop} {Q : Exit → Act → World → Prop} {E : Prop} (hgd : o.guard = none) (s x : Operand)
    (ho : o.op = .call { callee := .builtin .append, args := #[s, x], argTypes := #[83, 83] })
    (base : Nat) (v : Value) (l : List Value) (hs : a.eval s = v) (hown : OwnI w base v l)
    (PB : Nat → Prop) (A : Option Addr) (m c : Nat) (news : List Value) (hx : a.eval x = .slice A m c) (hm : news.length = m) (hr : Rd w PB A news) (h1 : ∀ u ∈ news, u.oneCell' = true)
    (hbytes : l.length + m ≤ 1000) (hbase : base ≤ w.heap.size)
    (h : ∀ v' w', OwnI w' base v' (l ++ news) → w.grownBy w' v.ownBlock → K (a.put o.dst v') w') : if Region.wanted o (yielded ops a.tmps) = true then Oper.wp Try.prog o a w K Q else E := by
  have hw : Region.wanted o (yielded ops a.tmps) = true := by simp [Region.wanted, hgd]
  rw [if_pos hw]
  subst hm
  obtain ⟨i0, hi0, hz0, hz1, hz2⟩ := info_parts int_info
  obtain ⟨v', w', hrun, h2, h3, h4⟩ := run_append_rd (P := Try.prog) base 83 o.type 3 i0 (.int .i64 0) 1 8 Try.underlying83 hi0 hz0 hz1 hz2 rfl (by omega) v l.length l hown.1 PB A news.length c news (by simp) hr h1
    (by simp only [maxLen]; omega) (by omega) hbase
  unfold Oper.wp execOp
  simp only [ho, resolve, invoke, builtin, Sem.run_bind, Sem.run_pure, Result.andThen_ok, List.map_toArray, List.map_cons, List.map_nil, hs, hx, hrun]
  refine h _ _ ⟨?_, ?_⟩ h3
  · rw [List.length_append]
    exact h2
  · intro u hu
    rcases List.mem_append.1 hu with k | k
    · exact hown.2 u k
    · exact h1 u k
theorem or_add (a b p k : Nat) (hp : p = 2 ^ k) (hb : b < p) (ha : a * p + b < 9223372036854775808) : bits .or .i64 ((a * p : Nat) : Int) (b : Int) = ((a * p + b : Nat) : Int) := by
  show IntKind.i64.wrap ((BitVec.ofInt 64 ((a * p : Nat) : Int) ||| BitVec.ofInt 64 (b : Int)).toNat : Int) = _
  rw [BitVec.ofInt_natCast, BitVec.ofInt_natCast, BitVec.toNat_or, BitVec.toNat_ofNat, BitVec.toNat_ofNat, Nat.mod_eq_of_lt (by omega), Nat.mod_eq_of_lt (by omega)]
  have e : a * p ||| b = a * p + b := by
    subst hp
    rw [Nat.mul_comm a, ← Nat.two_pow_add_eq_or_of_lt hb]
  rw [e, IntKind.wrap_i64]
  omega
theorem oc1 (y : Nat) : ((y * 16777216 : Nat) : Int) = (y : Int) * 16777216 := by omega
theorem oc2 (y : Nat) : ((y * 65536 : Nat) : Int) = (y : Int) * 65536 := by omega
theorem oc3 (y : Nat) : ((y * 256 : Nat) : Int) = (y : Int) * 256 := by omega
theorem oc4 (y0 y1 : Nat) : y0 * 16777216 + y1 * 65536 = (y0 * 256 + y1) * 65536 := by omega
theorem oc5 (y0 y1 y2 : Nat) : (y0 * 256 + y1) * 65536 + y2 * 256 = ((y0 * 256 + y1) * 256 + y2) * 256 := by omega
theorem oc6 (y0 y1 y2 y3 : Nat) : ((y0 * 256 + y1) * 256 + y2) * 256 + y3 = ((256 * y0 + y1) * 256 + y2) * 256 + y3 := by omega
theorem ob1 (y : Nat) (h : y < 256) : y * 65536 < 16777216 := by omega
theorem ob2 (y0 y1 : Nat) (h0 : y0 < 256) (h1 : y1 < 256) : y0 * 16777216 + y1 * 65536 < 9223372036854775808 := by omega
theorem ob3 (y : Nat) (h : y < 256) : y * 256 < 65536 := by omega
theorem ob4 (y0 y1 y2 : Nat) (h0 : y0 < 256) (h1 : y1 < 256) (h2 : y2 < 256) : (y0 * 256 + y1) * 65536 + y2 * 256 < 9223372036854775808 := by omega
theorem ob5 (y0 y1 y2 y3 : Nat) (h0 : y0 < 256) (h1 : y1 < 256) (h2 : y2 < 256) (h3 : y3 < 256) : ((y0 * 256 + y1) * 256 + y2) * 256 + y3 < 9223372036854775808 := by omega
theorem or_nats (y0 y1 y2 y3 : Nat) (h0 : y0 < 256) (h1 : y1 < 256) (h2 : y2 < 256) (h3 : y3 < 256) : (bits .or .i64 (bits .or .i64 (bits .or .i64 ((y0 : Int) * 16777216) ((y1 : Int) * 65536)) ((y2 : Int) * 256)) (y3 : Int)) = ((((256 * y0 + y1) * 256 + y2) * 256 + y3 : Nat) : Int) := by
  have b1 := ob1 y1 h1
  have b2 := ob2 y0 y1 h0 h1
  have b3 := ob3 y2 h2
  have b4 := ob4 y0 y1 y2 h0 h1 h2
  have b5 := ob5 y0 y1 y2 y3 h0 h1 h2 h3
  have e1 := or_add y0 (y1 * 65536) 16777216 24 (by decide) b1 b2
  have e2 := or_add (y0 * 256 + y1) (y2 * 256) 65536 16 (by decide) b3 b4
  have e3 := or_add ((y0 * 256 + y1) * 256 + y2) y3 256 8 (by decide) h3 b5
  rw [oc1, oc2, oc4] at e1
  rw [oc3, oc5] at e2
  rw [e1, e2, e3, oc6]
theorem or_four (x0 x1 x2 x3 : B8) : (bits .or .i64 (bits .or .i64 (bits .or .i64 ((x0.toNat : Int) * 16777216) ((x1.toNat : Int) * 65536)) ((x2.toNat : Int) * 256)) (x3.toNat : Int)) = (said [x0, x1, x2, x3] : Nat) := by
  rw [or_nats _ _ _ _ x0.isLt x1.isLt x2.isLt x3.isLt]
  congr 1
  simp only [said, List.foldl]
  omega
theorem four_of (d : List B8) (k : Nat) (h : 4 * k + 4 ≤ d.length) : (d.drop (4 * k)).take 4 = [d[4 * k]'(by omega), d[4 * k + 1]'(by omega), d[4 * k + 2]'(by omega), d[4 * k + 3]'(by omega)] := by
  rw [List.drop_eq_getElem_cons (by omega), List.drop_eq_getElem_cons (i := 4 * k + 1) (by omega), List.drop_eq_getElem_cons (i := 4 * k + 1 + 1) (by omega), List.drop_eq_getElem_cons (i := 4 * k + 1 + 1 + 1) (by omega)]
  rfl
/-- The numbers read so far. -/
def nums (d : List B8) (k : Nat) : List Value := (List.range k).map fun i => .int .i64 (hNum d i : Int)
theorem nums_length (d : List B8) (k : Nat) : (nums d k).length = k := by simp [nums]
theorem nums_succ (d : List B8) (k : Nat) : nums d k ++ [.int .i64 (hNum d k : Int)] = nums d (k + 1) := by simp [nums, List.range_succ]
theorem nums_get (d : List B8) (k j : Nat) (h : j < (nums d k).length) : (nums d k)[j] = .int .i64 (hNum d j : Int) := by simp [nums]

set_option maxRecDepth 100000 in
set_option maxHeartbeats 3200000 in
theorem rhget_any (A : Option Addr) (c : Nat) (l : List B8) (P : Nat → Prop) (w : World) (hr : Rd w P A (bs l)) (hl : l.length ≤ 1000000) (hcc : l.length ≤ c) :
    Calls Try.prog 57 #[.slice A l.length c] w (HeadPost w l) := by
  have r0 := hr.imp (Q := (· < w.heap.size)) fun b hb _ => hb
  have b2 := (Below.refl w.heap.size w).alloc (Nat.le_refl _) (.cells (headCells 0 0 0 0 0 0 0 0 0) 55)
  have R1 := Blk.new w 55 (headCells 0 0 0 0 0 0 0 0 0)
  have r2 := r0.below b2 fun b hb h => h
  clear hr r0
  go_enter Try.func57, Try.ntmps57
  go_wp2_with fail
  generalize w.alloc (.cells (headCells 0 0 0 0 0 0 0 0 0) 55) = w2 at *
  refine (rget_any A c l.length l _ w2 r2 rfl hl hcc).mono ?_
  rintro r w3 ⟨⟨hy, v3, rfl, own3⟩ | ⟨hno, rfl⟩, b3⟩
  · have hlen : (hData l).length = hLen l := hData_length l hy.1 hy.2.2.2.2.2
    obtain ⟨A3, c3, rfl, hc3⟩ := own3.form
    have HF : HeadPost w l = fun r w' => ((isHead l ∧ r = .returned (.tuple #[.agg (headCells (hNum (hData l) 0) (hNum (hData l) 1) (hNum (hData l) 2) (hNum (hData l) 3) (hNum (hData l) 4) (hEpoch l) (hNum (hData l) 5) (hNum (hData l) 6) (hNum (hData l) 7)), .int .i64 0])) ∨ (¬ isHead l ∧ r = .returned (.tuple #[.agg (headCells 0 0 0 0 0 0 0 0 0), .int .i64 4]))) ∧ Below w.heap.size w w' := rfl
    have hh : isHead l ↔ (l.length = 512 ∧ hLen l = 32 ∧
        hputRes (hNum (hData l) 0) (hNum (hData l) 1) (hNum (hData l) 2) (hNum (hData l) 3) (hNum (hData l) 4) (hEpoch l) (hNum (hData l) 5) (hNum (hData l) 6) (hNum (hData l) 7) = (l, 0)) :=
      ⟨fun h => ⟨isHead_length h, h.2.2.1, h.2.2.2⟩, fun h => ⟨hy, by rw [h.1, h.2.1]; rfl, h.2.1, h.2.2⟩⟩
    have hep : hEpoch l ≤ 1099511627776 := hy.2.2.1
    have hn32 : hLen l ≤ 32768 := hy.2.1
    have R3 := R1.below b3 R1.lt
    have b3' := b2.trans (b3.mono b2.size)
    have r3 := r2.below b3 fun b hb h => Nat.lt_trans h R1.lt
    have rd3 : Rd w3 (fun b => w.heap.size < b) A3 (bs (hData l)) := own3.rd fun g hg _ _ => Nat.lt_of_lt_of_le R1.lt hg
    rw [hlen]
    generalize hData l = d at *
    generalize hEpoch l = ep at *
    generalize hLen l = n at *
    have HH := hide hh
    have F4 := Blk.new w3 68 #[.int .i64 (hKind l), .int .i64 ep, .int .i64 (hSeq l), .slice A3 n c3]
    have b4 := b3'.alloc b3'.size (.cells #[.int .i64 (hKind l), .int .i64 ep, .int .i64 (hSeq l), .slice A3 n c3] 68)
    have R4 := R3.alloc (.cells #[.int .i64 (hKind l), .int .i64 ep, .int .i64 (hSeq l), .slice A3 n c3] 68)
    have ba := (Below.refl w3.heap.size w3).alloc (Nat.le_refl _) (.cells #[.int .i64 (hKind l), .int .i64 ep, .int .i64 (hSeq l), .slice A3 n c3] 68)
    have r4 := r3.below ba fun b hb _ => hb
    have rd4 := (rd3.imp (Q := fun b => w.heap.size < b ∧ b < w3.heap.size) fun b hb h => ⟨h, hb⟩).below ba fun b hb _ => hb
    have hRlt := R3.lt
    have HFF := hide HF
    clear R1 R3 b2 b3 b3' r2 r3 rd3 own3 hh hy ba HF
    have HF := HFF
    clear HFF
    go_upto_region 2 with fail
    generalize w3.alloc (.cells #[.int .i64 (hKind l), .int .i64 ep, .int .i64 (hSeq l), .slice A3 n c3] 68) = w4 at *
    have hlt4 := F4.lt
    generalize w3.heap.size = fb at *
    have z0 : w4.cell? ⟨w.heap.size, 0, none⟩ = some (.int .i64 0) := R4.cell 0
    have z1 : w4.cell? ⟨w.heap.size, 1, none⟩ = some (.int .i64 0) := R4.cell 1
    have z2 : w4.cell? ⟨w.heap.size, 2, none⟩ = some (.int .i64 0) := R4.cell 2
    have z3 : w4.cell? ⟨w.heap.size, 3, none⟩ = some (.int .i64 0) := R4.cell 3
    have z4 : w4.cell? ⟨w.heap.size, 4, none⟩ = some (.int .i64 0) := R4.cell 4
    have z5 : w4.cell? ⟨w.heap.size, 5, none⟩ = some (.int .i64 0) := R4.cell 5
    have z6 : w4.cell? ⟨w.heap.size, 6, none⟩ = some (.int .i64 0) := R4.cell 6
    have z7 : w4.cell? ⟨w.heap.size, 7, none⟩ = some (.int .i64 0) := R4.cell 7
    have z8 : w4.cell? ⟨w.heap.size, 8, none⟩ = some (.int .i64 0) := R4.cell 8
    have zf := R4.frozen
    have q3 : w4.cell? ⟨fb, 3, none⟩ = some (.slice A3 n c3) := F4.cell 3
    by_cases hl1 : l.length = 512
    · have HL1 := hide hl1
      have D1 : ((l.length : Int) != 512) = false := by simp; omega
      have D1' : (l.length != 512) = false := by simp; omega
      clear hl1
      by_cases hn : n = 32
      · subst hn
        clear z0 z1 z2 z3 z4 z5 z6 z7 z8 zf
        obtain ⟨db, off, rfl⟩ : ∃ b off, A3 = some ⟨b, off, none⟩ := by
          obtain ⟨b, off, rfl, _⟩ := rd4 (by simp; omega)
          exact ⟨b, off, rfl⟩
        have hc32 : 32 ≤ c3 := by omega
        clear hc3
        go_wp2_with fail
        go_loopw [7, 8] (fun v i wr => ∃ (k : Nat) (vv : Value), k ≤ 8 ∧ vv = v ∧ i = .int .i64 (4 * (k : Int)) ∧ Blk wr w.heap.size 55 (headCells 0 0 0 0 0 0 0 0 0) ∧
            Blk wr fb 68 #[.int .i64 (hKind l), .int .i64 ep, .int .i64 (hSeq l), .slice (some ⟨db, off, none⟩) 32 c3] ∧ Rd wr (fun b => w.heap.size < b ∧ b < fb) (some ⟨db, off, none⟩) (bs d) ∧ Rd wr (· < w.heap.size) A (bs l) ∧ OwnI wr (fb + 1) vv (nums d k) ∧ Below w.heap.size w wr) (fun _ i _ => 32 - (intOf i).toNat)
        case atStart => exact ⟨0, _, by omega, rfl, rfl, R4, F4, rd4, r4, OwnI.nil _ _, b4⟩
        case round =>
          clear F4 R4 rd4 r4 b4 q3
          obtain ⟨k, vv, hk, rfl, rfl, R, F, rd, r, own, bw⟩ := hrel
          have neF : ∀ x, x ≤ fb → some x ≠ vv.ownBlock := fun x hx e => by have := (own.lt x e.symm).1; omega
          by_cases hk8 : k < 8
          · have q3 : wr.cell? ⟨fb, 3, none⟩ = some (.slice (some ⟨db, off, none⟩) 32 c3) := F.cell 3
            have i1 : (0 : Int) ≤ 4 * (k : Int) := by omega
            have i2 : 4 * (k : Int) ≤ 32 := by omega
            have i3 : 4 * (k : Int) < 32 := by omega
            have i4 : ¬ c3 = 4 * k := by omega
            have i5 : (1 : Int) < ((32 - 4 * k : Nat) : Int) := by omega
            have i6 : (2 : Int) < ((32 - 4 * k : Nat) : Int) := by omega
            have i7 : (3 : Int) < ((32 - 4 * k : Nat) : Int) := by omega
            have i8 : (0 : Int) < ((32 - 4 * k : Nat) : Int) := by omega
            have j1 : 1 < 32 - 4 * k := by omega
            have j2 : 2 < 32 - 4 * k := by omega
            have j3 : 3 < 32 - 4 * k := by omega
            have j0 : 0 < 32 - 4 * k := by omega
            have hdl : d.length = 32 := hlen
            have hfour := four_of d k (by omega)
            have hN : hNum d k = said [d[4 * k]'(by omega), d[4 * k + 1]'(by omega), d[4 * k + 2]'(by omega), d[4 * k + 3]'(by omega)] := by unfold hNum; rw [hfour]
            obtain ⟨db', off', hA, hdb, hcell⟩ := rd (by simp; omega)
            injection hA with hA
            injection hA with e1 e2 e3
            subst e1 e2
            have y0 := hcell (4 * k) (by simp; omega)
            have y1 := hcell (4 * k + 1) (by simp; omega)
            have y2 := hcell (4 * k + 2) (by simp; omega)
            have y3 := hcell (4 * k + 3) (by simp; omega)
            rw [bs_get] at y0 y1 y2 y3
            rw [← Nat.add_assoc] at y1 y2 y3
            generalize d[4 * k] = x0 at *
            generalize d[4 * k + 1] = x1 at *
            generalize d[4 * k + 2] = x2 at *
            generalize d[4 * k + 3] = x3 at *
            have HOR := hide (or_four x0 x1 x2 x3)
            have HN := hide hN
            have HS := hide (nums_succ d k)
            have l0 := x0.isLt
            have l1 := x1.isLt
            have l2 := x2.isLt
            have l3 := x3.isLt
            have ndb : db ≤ fb := by omega
            have wa0 : IntKind.i64.wrap (x0.toNat : Int) = (x0.toNat : Int) := IntWalk.i64_in _ (by omega)
            have wa1 : IntKind.i64.wrap (x1.toNat : Int) = (x1.toNat : Int) := IntWalk.i64_in _ (by omega)
            have wa2 : IntKind.i64.wrap (x2.toNat : Int) = (x2.toNat : Int) := IntWalk.i64_in _ (by omega)
            have wa3 : IntKind.i64.wrap (x3.toNat : Int) = (x3.toNat : Int) := IntWalk.i64_in _ (by omega)
            have wb0 : IntKind.i64.wrap ((x0.toNat : Int) * 16777216) = (x0.toNat : Int) * 16777216 := IntWalk.i64_in _ (by omega)
            have wb1 : IntKind.i64.wrap ((x1.toNat : Int) * 65536) = (x1.toNat : Int) * 65536 := IntWalk.i64_in _ (by omega)
            have wb2 : IntKind.i64.wrap ((x2.toNat : Int) * 256) = (x2.toNat : Int) * 256 := IntWalk.i64_in _ (by omega)
            clear hcell hfour hN hdl
            go_wp2_with fail
            refine wp_region_sink 25 (fun wx => wr.grownBy wx vv.ownBlock) (by kernel_rfl) (only_drew (only_refl _ _)) (fun hHeld => ?_)
            refine sink_take (i := 0) (oi := _) (v := ?_) rfl (by kernel_rfl) (by decide) (by kernel_rfl) (by kernel_rfl) (by kernel_rfl) (by kernel_rfl) (fun _ _ _ h => h) (by rfl) (fun wx hSw => ?_) hHeld ?_
            rotate_left
            · have q0 := hSw.cell y0 (neF _ ndb); have q1 := hSw.cell y1 (neF _ ndb); have q2 := hSw.cell y2 (neF _ ndb); have q3 := hSw.cell y3 (neF _ ndb); go_simp
              with_reducible rfl
            try simp only [Act.put, List.setIfInBounds_toArray, List.set_cons_zero, List.set_cons_succ]
            refine sink_take (i := 1) (oi := _) (v := ?_) rfl (by kernel_rfl) (by decide) (by kernel_rfl) (by kernel_rfl) (by kernel_rfl) (by kernel_rfl) (fun _ _ _ h => h) (by rfl) (fun wx hSw => ?_) hHeld ?_
            rotate_left
            · have q0 := hSw.cell y0 (neF _ ndb); have q1 := hSw.cell y1 (neF _ ndb); have q2 := hSw.cell y2 (neF _ ndb); have q3 := hSw.cell y3 (neF _ ndb); go_simp
              with_reducible rfl
            try simp only [Act.put, List.setIfInBounds_toArray, List.set_cons_zero, List.set_cons_succ]
            refine sink_take (i := 2) (oi := _) (v := ?_) rfl (by kernel_rfl) (by decide) (by kernel_rfl) (by kernel_rfl) (by kernel_rfl) (by kernel_rfl) (fun _ _ _ h => h) (by rfl) (fun wx hSw => ?_) hHeld ?_
            rotate_left
            · have q0 := hSw.cell y0 (neF _ ndb); have q1 := hSw.cell y1 (neF _ ndb); have q2 := hSw.cell y2 (neF _ ndb); have q3 := hSw.cell y3 (neF _ ndb); go_simp
              with_reducible rfl
            try simp only [Act.put, List.setIfInBounds_toArray, List.set_cons_zero, List.set_cons_succ]
            refine sink_take (i := 3) (oi := _) (v := ?_) rfl (by kernel_rfl) (by decide) (by kernel_rfl) (by kernel_rfl) (by kernel_rfl) (by kernel_rfl) (fun _ _ _ h => h) (by rfl) (fun wx hSw => ?_) hHeld ?_
            rotate_left
            · have q0 := hSw.cell y0 (neF _ ndb); have q1 := hSw.cell y1 (neF _ ndb); have q2 := hSw.cell y2 (neF _ ndb); have q3 := hSw.cell y3 (neF _ ndb); go_simp
              with_reducible rfl
            try simp only [Act.put, List.setIfInBounds_toArray, List.set_cons_zero, List.set_cons_succ]
            refine sink_take (i := 4) (oi := _) (v := ?_) rfl (by kernel_rfl) (by decide) (by kernel_rfl) (by kernel_rfl) (by kernel_rfl) (by kernel_rfl) (fun _ _ _ h => h) (by rfl) (fun wx hSw => ?_) hHeld ?_
            rotate_left
            · have q0 := hSw.cell y0 (neF _ ndb); have q1 := hSw.cell y1 (neF _ ndb); have q2 := hSw.cell y2 (neF _ ndb); have q3 := hSw.cell y3 (neF _ ndb); go_simp
              with_reducible rfl
            try simp only [Act.put, List.setIfInBounds_toArray, List.set_cons_zero, List.set_cons_succ]
            refine sink_take (i := 5) (oi := _) (v := ?_) rfl (by kernel_rfl) (by decide) (by kernel_rfl) (by kernel_rfl) (by kernel_rfl) (by kernel_rfl) (fun _ _ _ h => h) (by rfl) (fun wx hSw => ?_) hHeld ?_
            rotate_left
            · have q0 := hSw.cell y0 (neF _ ndb); have q1 := hSw.cell y1 (neF _ ndb); have q2 := hSw.cell y2 (neF _ ndb); have q3 := hSw.cell y3 (neF _ ndb); go_simp
              with_reducible rfl
            try simp only [Act.put, List.setIfInBounds_toArray, List.set_cons_zero, List.set_cons_succ]
            refine sink_take (i := 6) (oi := _) (v := ?_) rfl (by kernel_rfl) (by decide) (by kernel_rfl) (by kernel_rfl) (by kernel_rfl) (by kernel_rfl) (fun _ _ _ h => h) (by rfl) (fun wx hSw => ?_) hHeld ?_
            rotate_left
            · have q0 := hSw.cell y0 (neF _ ndb); have q1 := hSw.cell y1 (neF _ ndb); have q2 := hSw.cell y2 (neF _ ndb); have q3 := hSw.cell y3 (neF _ ndb); go_simp
              with_reducible rfl
            try simp only [Act.put, List.setIfInBounds_toArray, List.set_cons_zero, List.set_cons_succ]
            refine sink_take (i := 7) (oi := _) (v := ?_) rfl (by kernel_rfl) (by decide) (by kernel_rfl) (by kernel_rfl) (by kernel_rfl) (by kernel_rfl) (fun _ _ _ h => h) (by rfl) (fun wx hSw => ?_) hHeld ?_
            rotate_left
            · have q0 := hSw.cell y0 (neF _ ndb); have q1 := hSw.cell y1 (neF _ ndb); have q2 := hSw.cell y2 (neF _ ndb); have q3 := hSw.cell y3 (neF _ ndb); go_simp
              with_reducible rfl
            try simp only [Act.put, List.setIfInBounds_toArray, List.set_cons_zero, List.set_cons_succ]
            refine sink_take (i := 8) (oi := _) (v := ?_) rfl (by kernel_rfl) (by decide) (by kernel_rfl) (by kernel_rfl) (by kernel_rfl) (by kernel_rfl) (fun _ _ _ h => h) (by rfl) (fun wx hSw => ?_) hHeld ?_
            rotate_left
            · have q0 := hSw.cell y0 (neF _ ndb); have q1 := hSw.cell y1 (neF _ ndb); have q2 := hSw.cell y2 (neF _ ndb); have q3 := hSw.cell y3 (neF _ ndb); go_simp
              with_reducible rfl
            try simp only [Act.put, List.setIfInBounds_toArray, List.set_cons_zero, List.set_cons_succ]
            refine sink_take (i := 9) (oi := _) (v := ?_) rfl (by kernel_rfl) (by decide) (by kernel_rfl) (by kernel_rfl) (by kernel_rfl) (by kernel_rfl) (fun _ _ _ h => h) (by rfl) (fun wx hSw => ?_) hHeld ?_
            rotate_left
            · have q0 := hSw.cell y0 (neF _ ndb); have q1 := hSw.cell y1 (neF _ ndb); have q2 := hSw.cell y2 (neF _ ndb); have q3 := hSw.cell y3 (neF _ ndb); go_simp
              with_reducible rfl
            try simp only [Act.put, List.setIfInBounds_toArray, List.set_cons_zero, List.set_cons_succ]
            refine sink_take (i := 10) (oi := _) (v := ?_) rfl (by kernel_rfl) (by decide) (by kernel_rfl) (by kernel_rfl) (by kernel_rfl) (by kernel_rfl) (fun _ _ _ h => h) (by rfl) (fun wx hSw => ?_) hHeld ?_
            rotate_left
            · have q0 := hSw.cell y0 (neF _ ndb); have q1 := hSw.cell y1 (neF _ ndb); have q2 := hSw.cell y2 (neF _ ndb); have q3 := hSw.cell y3 (neF _ ndb); go_simp
              with_reducible rfl
            try simp only [Act.put, List.setIfInBounds_toArray, List.set_cons_zero, List.set_cons_succ]
            refine sink_take (i := 11) (oi := _) (v := ?_) rfl (by kernel_rfl) (by decide) (by kernel_rfl) (by kernel_rfl) (by kernel_rfl) (by kernel_rfl) (fun _ _ _ h => h) (by rfl) (fun wx hSw => ?_) hHeld ?_
            rotate_left
            · have q0 := hSw.cell y0 (neF _ ndb); have q1 := hSw.cell y1 (neF _ ndb); have q2 := hSw.cell y2 (neF _ ndb); have q3 := hSw.cell y3 (neF _ ndb); go_simp
              with_reducible rfl
            try simp only [Act.put, List.setIfInBounds_toArray, List.set_cons_zero, List.set_cons_succ]
            refine sink_take (i := 12) (oi := _) (v := ?_) rfl (by kernel_rfl) (by decide) (by kernel_rfl) (by kernel_rfl) (by kernel_rfl) (by kernel_rfl) (fun _ _ _ h => h) (by rfl) (fun wx hSw => ?_) hHeld ?_
            rotate_left
            · have q0 := hSw.cell y0 (neF _ ndb); have q1 := hSw.cell y1 (neF _ ndb); have q2 := hSw.cell y2 (neF _ ndb); have q3 := hSw.cell y3 (neF _ ndb); go_simp
              with_reducible rfl
            try simp only [Act.put, List.setIfInBounds_toArray, List.set_cons_zero, List.set_cons_succ]
            refine sink_take (i := 13) (oi := _) (v := ?_) rfl (by kernel_rfl) (by decide) (by kernel_rfl) (by kernel_rfl) (by kernel_rfl) (by kernel_rfl) (fun _ _ _ h => h) (by rfl) (fun wx hSw => ?_) hHeld ?_
            rotate_left
            · have q0 := hSw.cell y0 (neF _ ndb); have q1 := hSw.cell y1 (neF _ ndb); have q2 := hSw.cell y2 (neF _ ndb); have q3 := hSw.cell y3 (neF _ ndb); go_simp
              with_reducible rfl
            try simp only [Act.put, List.setIfInBounds_toArray, List.set_cons_zero, List.set_cons_succ]
            refine sink_take (i := 14) (oi := _) (v := ?_) rfl (by kernel_rfl) (by decide) (by kernel_rfl) (by kernel_rfl) (by kernel_rfl) (by kernel_rfl) (fun _ _ _ h => h) (by rfl) (fun wx hSw => ?_) hHeld ?_
            rotate_left
            · have q0 := hSw.cell y0 (neF _ ndb); have q1 := hSw.cell y1 (neF _ ndb); have q2 := hSw.cell y2 (neF _ ndb); have q3 := hSw.cell y3 (neF _ ndb); go_simp
              with_reducible rfl
            try simp only [Act.put, List.setIfInBounds_toArray, List.set_cons_zero, List.set_cons_succ]
            refine sink_take (i := 15) (oi := _) (v := ?_) rfl (by kernel_rfl) (by decide) (by kernel_rfl) (by kernel_rfl) (by kernel_rfl) (by kernel_rfl) (fun _ _ _ h => h) (by rfl) (fun wx hSw => ?_) hHeld ?_
            rotate_left
            · have q0 := hSw.cell y0 (neF _ ndb); have q1 := hSw.cell y1 (neF _ ndb); have q2 := hSw.cell y2 (neF _ ndb); have q3 := hSw.cell y3 (neF _ ndb); go_simp
              with_reducible rfl
            try simp only [Act.put, List.setIfInBounds_toArray, List.set_cons_zero, List.set_cons_succ]
            refine sink_take (i := 16) (oi := _) (v := ?_) rfl (by kernel_rfl) (by decide) (by kernel_rfl) (by kernel_rfl) (by kernel_rfl) (by kernel_rfl) (fun _ _ _ h => h) (by rfl) (fun wx hSw => ?_) hHeld ?_
            rotate_left
            · have q0 := hSw.cell y0 (neF _ ndb); have q1 := hSw.cell y1 (neF _ ndb); have q2 := hSw.cell y2 (neF _ ndb); have q3 := hSw.cell y3 (neF _ ndb); go_simp
              with_reducible rfl
            try simp only [Act.put, List.setIfInBounds_toArray, List.set_cons_zero, List.set_cons_succ]
            refine sink_take (i := 17) (oi := _) (v := ?_) rfl (by kernel_rfl) (by decide) (by kernel_rfl) (by kernel_rfl) (by kernel_rfl) (by kernel_rfl) (fun _ _ _ h => h) (by rfl) (fun wx hSw => ?_) hHeld ?_
            rotate_left
            · have q0 := hSw.cell y0 (neF _ ndb); have q1 := hSw.cell y1 (neF _ ndb); have q2 := hSw.cell y2 (neF _ ndb); have q3 := hSw.cell y3 (neF _ ndb); go_simp
              with_reducible rfl
            try simp only [Act.put, List.setIfInBounds_toArray, List.set_cons_zero, List.set_cons_succ]
            refine sink_take (i := 18) (oi := _) (v := ?_) rfl (by kernel_rfl) (by decide) (by kernel_rfl) (by kernel_rfl) (by kernel_rfl) (by kernel_rfl) (fun _ _ _ h => h) (by rfl) (fun wx hSw => ?_) hHeld ?_
            rotate_left
            · have q0 := hSw.cell y0 (neF _ ndb); have q1 := hSw.cell y1 (neF _ ndb); have q2 := hSw.cell y2 (neF _ ndb); have q3 := hSw.cell y3 (neF _ ndb); go_simp
              with_reducible rfl
            try simp only [Act.put, List.setIfInBounds_toArray, List.set_cons_zero, List.set_cons_succ]
            refine sink_take (i := 19) (oi := _) (v := ?_) rfl (by kernel_rfl) (by decide) (by kernel_rfl) (by kernel_rfl) (by kernel_rfl) (by kernel_rfl) (fun _ _ _ h => h) (by rfl) (fun wx hSw => ?_) hHeld ?_
            rotate_left
            · have q0 := hSw.cell y0 (neF _ ndb); have q1 := hSw.cell y1 (neF _ ndb); have q2 := hSw.cell y2 (neF _ ndb); have q3 := hSw.cell y3 (neF _ ndb); go_simp
              with_reducible rfl
            try simp only [Act.put, List.setIfInBounds_toArray, List.set_cons_zero, List.set_cons_succ]
            refine sink_take (i := 20) (oi := _) (v := ?_) rfl (by kernel_rfl) (by decide) (by kernel_rfl) (by kernel_rfl) (by kernel_rfl) (by kernel_rfl) (fun _ _ _ h => h) (by rfl) (fun wx hSw => ?_) hHeld ?_
            rotate_left
            · have q0 := hSw.cell y0 (neF _ ndb); have q1 := hSw.cell y1 (neF _ ndb); have q2 := hSw.cell y2 (neF _ ndb); have q3 := hSw.cell y3 (neF _ ndb); go_simp
              with_reducible rfl
            try simp only [Act.put, List.setIfInBounds_toArray, List.set_cons_zero, List.set_cons_succ]
            refine sink_take (i := 21) (oi := _) (v := ?_) rfl (by kernel_rfl) (by decide) (by kernel_rfl) (by kernel_rfl) (by kernel_rfl) (by kernel_rfl) (fun _ _ _ h => h) (by rfl) (fun wx hSw => ?_) hHeld ?_
            rotate_left
            · have q0 := hSw.cell y0 (neF _ ndb); have q1 := hSw.cell y1 (neF _ ndb); have q2 := hSw.cell y2 (neF _ ndb); have q3 := hSw.cell y3 (neF _ ndb); go_simp
              with_reducible rfl
            try simp only [Act.put, List.setIfInBounds_toArray, List.set_cons_zero, List.set_cons_succ]
            refine sink_take (i := 22) (oi := _) (v := ?_) rfl (by kernel_rfl) (by decide) (by kernel_rfl) (by kernel_rfl) (by kernel_rfl) (by kernel_rfl) (fun _ _ _ h => h) (by rfl) (fun wx hSw => ?_) hHeld ?_
            rotate_left
            · have q0 := hSw.cell y0 (neF _ ndb); have q1 := hSw.cell y1 (neF _ ndb); have q2 := hSw.cell y2 (neF _ ndb); have q3 := hSw.cell y3 (neF _ ndb); go_simp
              with_reducible rfl
            try simp only [Act.put, List.setIfInBounds_toArray, List.set_cons_zero, List.set_cons_succ]
            refine sink_ready (rs := [23]) (by kernel_rfl) (by simp) (ReadyL.cons (o := _) rfl (fun K hK => ?_) ReadyL.nil)
            go_simp
            refine hK.out _ _ (only_alloc hHeld _) (fun hHeld => ?_)
            clear hK K
            try simp only [Act.put, List.setIfInBounds_toArray, List.set_cons_zero, List.set_cons_succ]
            have hsz := F.lt
            have RB : Rd (wr.alloc (.cells #[.int .i64 (bits .or .i64 (bits .or .i64 (bits .or .i64 ((x0.toNat : Int) * 16777216) ((x1.toNat : Int) * 65536)) ((x2.toNat : Int) * 256)) (x3.toNat : Int))] 3)).drew (fun _ => True) (some ⟨wr.heap.size, 0, none⟩) [.int .i64 (hNum d k : Int)] :=
              (rd_alloc wr 3 _ (0, 0) _ (by rw [HOR.out, ← HN.out]) _ trivial).drew
            refine sink_ready (rs := [24]) (by kernel_rfl) (by simp) (ReadyL.cons (o := _) rfl (fun K hK => ?_) ReadyL.nil)
            refine step_append_int (by rfl) _ _ (by rfl) (fb + 1) vv (nums d k) (by rfl) (own.alloc _).drew (fun _ => True) (some ⟨wr.heap.size, 0, none⟩) 1 1 [.int .i64 (hNum d k : Int)] (by rfl) (by rfl) RB (by simp [Value.oneCell']) (by rw [nums_length]; omega) (by simp; omega) ?_; intro v3 w3 own3 g3
            refine hK.out _ _ (only_trans (only_drew (only_alloc (only_refl _ _) _)) g3) (fun hHeld => ?_)
            clear hK K
            try simp only [Act.put, List.setIfInBounds_toArray, List.set_cons_zero, List.set_cons_succ]
            have gA := only_alloc (only_refl wr vv.ownBlock) (.cells #[.int .i64 (bits .or .i64 (bits .or .i64 (bits .or .i64 ((x0.toNat : Int) * 16777216) ((x1.toNat : Int) * 65536)) ((x2.toNat : Int) * 256)) (x3.toNat : Int))] 3)
            have gg := only_trans (only_drew gA) g3
            have F3 := F.grown gg (neF _ (Nat.le_refl _))
            have R3 := R.grown gg (neF _ (Nat.le_of_lt hRlt))
            have rd3 := rd.only gg (fun b hb => neF b (by omega))
            have r3 := r.only gg (fun b hb => neF b (by omega))
            rw [HS.out] at own3
            have b3 : Below w.heap.size w w3 := bw.trans ⟨gg.os, gg.tape, gg.output, gg.size, fun x hx => gg.block x (by have := bw.size; omega) (neF x (by omega))⟩
            refine sink_last (by kernel_rfl) rfl (by kernel_rfl) (by kernel_rfl) (fun K hK => ?_)
            go_simp
            refine hK.out _ _ ?_
            clear hK K
            try simp only [Act.put, List.setIfInBounds_toArray, List.set_cons_zero, List.set_cons_succ]
            go_wp2_with fail
            go_roundw
            case rel => exact ⟨k + 1, v3, by omega, rfl, by go_num, R3, F3, rd3, r3, own3, b3⟩
            case measure => simp [intOf]; omega
          · obtain rfl : k = 8 := by omega
            obtain ⟨g, cap, hv, hcap, hgb, hglt, hcell⟩ := own.row (by rw [nums_length]; omega)
            rw [nums_length] at hv hcap
            subst hv
            have u0 : wr.cell? ⟨g, 0, none⟩ = some (.int .i64 (hNum d 0 : Int)) := (hcell 0 (by rw [nums_length]; omega)).trans (by rw [nums_get])
            have u1 : wr.cell? ⟨g, 1, none⟩ = some (.int .i64 (hNum d 1 : Int)) := (hcell 1 (by rw [nums_length]; omega)).trans (by rw [nums_get])
            have u2 : wr.cell? ⟨g, 2, none⟩ = some (.int .i64 (hNum d 2 : Int)) := (hcell 2 (by rw [nums_length]; omega)).trans (by rw [nums_get])
            have u3 : wr.cell? ⟨g, 3, none⟩ = some (.int .i64 (hNum d 3 : Int)) := (hcell 3 (by rw [nums_length]; omega)).trans (by rw [nums_get])
            have u4 : wr.cell? ⟨g, 4, none⟩ = some (.int .i64 (hNum d 4 : Int)) := (hcell 4 (by rw [nums_length]; omega)).trans (by rw [nums_get])
            have u5 : wr.cell? ⟨g, 5, none⟩ = some (.int .i64 (hNum d 5 : Int)) := (hcell 5 (by rw [nums_length]; omega)).trans (by rw [nums_get])
            have u6 : wr.cell? ⟨g, 6, none⟩ = some (.int .i64 (hNum d 6 : Int)) := (hcell 6 (by rw [nums_length]; omega)).trans (by rw [nums_get])
            have u7 : wr.cell? ⟨g, 7, none⟩ = some (.int .i64 (hNum d 7 : Int)) := (hcell 7 (by rw [nums_length]; omega)).trans (by rw [nums_get])
            have u8 : wr.cell? ⟨fb, 1, none⟩ = some (.int .i64 ep) := F.cell 1
            have hFlt := F.lt
            have HIFF := hide HH.out
            clear hcell own neF
            generalize (hNum d 0 : Int) = n0 at *
            generalize (hNum d 1 : Int) = n1 at *
            generalize (hNum d 2 : Int) = n2 at *
            generalize (hNum d 3 : Int) = n3 at *
            generalize (hNum d 4 : Int) = n4 at *
            generalize (hNum d 5 : Int) = n5 at *
            generalize (hNum d 6 : Int) = n6 at *
            generalize (hNum d 7 : Int) = n7 at *
            go_wp2_with fail
            refine wp_region_sink 29 (fun wx => Below wr.heap.size wr wx) (by kernel_rfl) (Below.refl _ _).drew (fun hHeld => ?_)
            refine sink_take (i := 0) (oi := _) (v := ?_) rfl (by kernel_rfl) (by decide) (by kernel_rfl) (by kernel_rfl) (by kernel_rfl) (by kernel_rfl) (fun _ _ _ h => h) (by rfl) (fun wx hSw => ?_) hHeld ?_
            rotate_left
            · have t0 := (hSw.cell (p := ⟨g, 0, none⟩) hglt).trans u0; have t1 := (hSw.cell (p := ⟨g, 1, none⟩) hglt).trans u1; have t2 := (hSw.cell (p := ⟨g, 2, none⟩) hglt).trans u2; have t3 := (hSw.cell (p := ⟨g, 3, none⟩) hglt).trans u3; have t4 := (hSw.cell (p := ⟨g, 4, none⟩) hglt).trans u4; have t5 := (hSw.cell (p := ⟨g, 5, none⟩) hglt).trans u5; have t6 := (hSw.cell (p := ⟨g, 6, none⟩) hglt).trans u6; have t7 := (hSw.cell (p := ⟨g, 7, none⟩) hglt).trans u7; have t8 := (hSw.cell (p := ⟨fb, 1, none⟩) hFlt).trans u8; go_simp
              with_reducible rfl
            try simp only [Act.put, List.setIfInBounds_toArray, List.set_cons_zero, List.set_cons_succ]
            refine sink_take (i := 1) (oi := _) (v := ?_) rfl (by kernel_rfl) (by decide) (by kernel_rfl) (by kernel_rfl) (by kernel_rfl) (by kernel_rfl) (fun _ _ _ h => h) (by rfl) (fun wx hSw => ?_) hHeld ?_
            rotate_left
            · have t0 := (hSw.cell (p := ⟨g, 0, none⟩) hglt).trans u0; have t1 := (hSw.cell (p := ⟨g, 1, none⟩) hglt).trans u1; have t2 := (hSw.cell (p := ⟨g, 2, none⟩) hglt).trans u2; have t3 := (hSw.cell (p := ⟨g, 3, none⟩) hglt).trans u3; have t4 := (hSw.cell (p := ⟨g, 4, none⟩) hglt).trans u4; have t5 := (hSw.cell (p := ⟨g, 5, none⟩) hglt).trans u5; have t6 := (hSw.cell (p := ⟨g, 6, none⟩) hglt).trans u6; have t7 := (hSw.cell (p := ⟨g, 7, none⟩) hglt).trans u7; have t8 := (hSw.cell (p := ⟨fb, 1, none⟩) hFlt).trans u8; go_simp
              with_reducible rfl
            try simp only [Act.put, List.setIfInBounds_toArray, List.set_cons_zero, List.set_cons_succ]
            refine sink_take (i := 2) (oi := _) (v := ?_) rfl (by kernel_rfl) (by decide) (by kernel_rfl) (by kernel_rfl) (by kernel_rfl) (by kernel_rfl) (fun _ _ _ h => h) (by rfl) (fun wx hSw => ?_) hHeld ?_
            rotate_left
            · have t0 := (hSw.cell (p := ⟨g, 0, none⟩) hglt).trans u0; have t1 := (hSw.cell (p := ⟨g, 1, none⟩) hglt).trans u1; have t2 := (hSw.cell (p := ⟨g, 2, none⟩) hglt).trans u2; have t3 := (hSw.cell (p := ⟨g, 3, none⟩) hglt).trans u3; have t4 := (hSw.cell (p := ⟨g, 4, none⟩) hglt).trans u4; have t5 := (hSw.cell (p := ⟨g, 5, none⟩) hglt).trans u5; have t6 := (hSw.cell (p := ⟨g, 6, none⟩) hglt).trans u6; have t7 := (hSw.cell (p := ⟨g, 7, none⟩) hglt).trans u7; have t8 := (hSw.cell (p := ⟨fb, 1, none⟩) hFlt).trans u8; go_simp
              with_reducible rfl
            try simp only [Act.put, List.setIfInBounds_toArray, List.set_cons_zero, List.set_cons_succ]
            refine sink_take (i := 3) (oi := _) (v := ?_) rfl (by kernel_rfl) (by decide) (by kernel_rfl) (by kernel_rfl) (by kernel_rfl) (by kernel_rfl) (fun _ _ _ h => h) (by rfl) (fun wx hSw => ?_) hHeld ?_
            rotate_left
            · have t0 := (hSw.cell (p := ⟨g, 0, none⟩) hglt).trans u0; have t1 := (hSw.cell (p := ⟨g, 1, none⟩) hglt).trans u1; have t2 := (hSw.cell (p := ⟨g, 2, none⟩) hglt).trans u2; have t3 := (hSw.cell (p := ⟨g, 3, none⟩) hglt).trans u3; have t4 := (hSw.cell (p := ⟨g, 4, none⟩) hglt).trans u4; have t5 := (hSw.cell (p := ⟨g, 5, none⟩) hglt).trans u5; have t6 := (hSw.cell (p := ⟨g, 6, none⟩) hglt).trans u6; have t7 := (hSw.cell (p := ⟨g, 7, none⟩) hglt).trans u7; have t8 := (hSw.cell (p := ⟨fb, 1, none⟩) hFlt).trans u8; go_simp
              with_reducible rfl
            try simp only [Act.put, List.setIfInBounds_toArray, List.set_cons_zero, List.set_cons_succ]
            refine sink_take (i := 4) (oi := _) (v := ?_) rfl (by kernel_rfl) (by decide) (by kernel_rfl) (by kernel_rfl) (by kernel_rfl) (by kernel_rfl) (fun _ _ _ h => h) (by rfl) (fun wx hSw => ?_) hHeld ?_
            rotate_left
            · have t0 := (hSw.cell (p := ⟨g, 0, none⟩) hglt).trans u0; have t1 := (hSw.cell (p := ⟨g, 1, none⟩) hglt).trans u1; have t2 := (hSw.cell (p := ⟨g, 2, none⟩) hglt).trans u2; have t3 := (hSw.cell (p := ⟨g, 3, none⟩) hglt).trans u3; have t4 := (hSw.cell (p := ⟨g, 4, none⟩) hglt).trans u4; have t5 := (hSw.cell (p := ⟨g, 5, none⟩) hglt).trans u5; have t6 := (hSw.cell (p := ⟨g, 6, none⟩) hglt).trans u6; have t7 := (hSw.cell (p := ⟨g, 7, none⟩) hglt).trans u7; have t8 := (hSw.cell (p := ⟨fb, 1, none⟩) hFlt).trans u8; go_simp
              with_reducible rfl
            try simp only [Act.put, List.setIfInBounds_toArray, List.set_cons_zero, List.set_cons_succ]
            refine sink_take (i := 5) (oi := _) (v := ?_) rfl (by kernel_rfl) (by decide) (by kernel_rfl) (by kernel_rfl) (by kernel_rfl) (by kernel_rfl) (fun _ _ _ h => h) (by rfl) (fun wx hSw => ?_) hHeld ?_
            rotate_left
            · have t0 := (hSw.cell (p := ⟨g, 0, none⟩) hglt).trans u0; have t1 := (hSw.cell (p := ⟨g, 1, none⟩) hglt).trans u1; have t2 := (hSw.cell (p := ⟨g, 2, none⟩) hglt).trans u2; have t3 := (hSw.cell (p := ⟨g, 3, none⟩) hglt).trans u3; have t4 := (hSw.cell (p := ⟨g, 4, none⟩) hglt).trans u4; have t5 := (hSw.cell (p := ⟨g, 5, none⟩) hglt).trans u5; have t6 := (hSw.cell (p := ⟨g, 6, none⟩) hglt).trans u6; have t7 := (hSw.cell (p := ⟨g, 7, none⟩) hglt).trans u7; have t8 := (hSw.cell (p := ⟨fb, 1, none⟩) hFlt).trans u8; go_simp
              with_reducible rfl
            try simp only [Act.put, List.setIfInBounds_toArray, List.set_cons_zero, List.set_cons_succ]
            refine sink_take (i := 6) (oi := _) (v := ?_) rfl (by kernel_rfl) (by decide) (by kernel_rfl) (by kernel_rfl) (by kernel_rfl) (by kernel_rfl) (fun _ _ _ h => h) (by rfl) (fun wx hSw => ?_) hHeld ?_
            rotate_left
            · have t0 := (hSw.cell (p := ⟨g, 0, none⟩) hglt).trans u0; have t1 := (hSw.cell (p := ⟨g, 1, none⟩) hglt).trans u1; have t2 := (hSw.cell (p := ⟨g, 2, none⟩) hglt).trans u2; have t3 := (hSw.cell (p := ⟨g, 3, none⟩) hglt).trans u3; have t4 := (hSw.cell (p := ⟨g, 4, none⟩) hglt).trans u4; have t5 := (hSw.cell (p := ⟨g, 5, none⟩) hglt).trans u5; have t6 := (hSw.cell (p := ⟨g, 6, none⟩) hglt).trans u6; have t7 := (hSw.cell (p := ⟨g, 7, none⟩) hglt).trans u7; have t8 := (hSw.cell (p := ⟨fb, 1, none⟩) hFlt).trans u8; go_simp
              with_reducible rfl
            try simp only [Act.put, List.setIfInBounds_toArray, List.set_cons_zero, List.set_cons_succ]
            refine sink_take (i := 7) (oi := _) (v := ?_) rfl (by kernel_rfl) (by decide) (by kernel_rfl) (by kernel_rfl) (by kernel_rfl) (by kernel_rfl) (fun _ _ _ h => h) (by rfl) (fun wx hSw => ?_) hHeld ?_
            rotate_left
            · have t0 := (hSw.cell (p := ⟨g, 0, none⟩) hglt).trans u0; have t1 := (hSw.cell (p := ⟨g, 1, none⟩) hglt).trans u1; have t2 := (hSw.cell (p := ⟨g, 2, none⟩) hglt).trans u2; have t3 := (hSw.cell (p := ⟨g, 3, none⟩) hglt).trans u3; have t4 := (hSw.cell (p := ⟨g, 4, none⟩) hglt).trans u4; have t5 := (hSw.cell (p := ⟨g, 5, none⟩) hglt).trans u5; have t6 := (hSw.cell (p := ⟨g, 6, none⟩) hglt).trans u6; have t7 := (hSw.cell (p := ⟨g, 7, none⟩) hglt).trans u7; have t8 := (hSw.cell (p := ⟨fb, 1, none⟩) hFlt).trans u8; go_simp
              with_reducible rfl
            try simp only [Act.put, List.setIfInBounds_toArray, List.set_cons_zero, List.set_cons_succ]
            refine sink_take (i := 8) (oi := _) (v := ?_) rfl (by kernel_rfl) (by decide) (by kernel_rfl) (by kernel_rfl) (by kernel_rfl) (by kernel_rfl) (fun _ _ _ h => h) (by rfl) (fun wx hSw => ?_) hHeld ?_
            rotate_left
            · have t0 := (hSw.cell (p := ⟨g, 0, none⟩) hglt).trans u0; have t1 := (hSw.cell (p := ⟨g, 1, none⟩) hglt).trans u1; have t2 := (hSw.cell (p := ⟨g, 2, none⟩) hglt).trans u2; have t3 := (hSw.cell (p := ⟨g, 3, none⟩) hglt).trans u3; have t4 := (hSw.cell (p := ⟨g, 4, none⟩) hglt).trans u4; have t5 := (hSw.cell (p := ⟨g, 5, none⟩) hglt).trans u5; have t6 := (hSw.cell (p := ⟨g, 6, none⟩) hglt).trans u6; have t7 := (hSw.cell (p := ⟨g, 7, none⟩) hglt).trans u7; have t8 := (hSw.cell (p := ⟨fb, 1, none⟩) hFlt).trans u8; go_simp
              with_reducible rfl
            try simp only [Act.put, List.setIfInBounds_toArray, List.set_cons_zero, List.set_cons_succ]
            refine sink_take (i := 9) (oi := _) (v := ?_) rfl (by kernel_rfl) (by decide) (by kernel_rfl) (by kernel_rfl) (by kernel_rfl) (by kernel_rfl) (fun _ _ _ h => h) (by rfl) (fun wx hSw => ?_) hHeld ?_
            rotate_left
            · have t0 := (hSw.cell (p := ⟨g, 0, none⟩) hglt).trans u0; have t1 := (hSw.cell (p := ⟨g, 1, none⟩) hglt).trans u1; have t2 := (hSw.cell (p := ⟨g, 2, none⟩) hglt).trans u2; have t3 := (hSw.cell (p := ⟨g, 3, none⟩) hglt).trans u3; have t4 := (hSw.cell (p := ⟨g, 4, none⟩) hglt).trans u4; have t5 := (hSw.cell (p := ⟨g, 5, none⟩) hglt).trans u5; have t6 := (hSw.cell (p := ⟨g, 6, none⟩) hglt).trans u6; have t7 := (hSw.cell (p := ⟨g, 7, none⟩) hglt).trans u7; have t8 := (hSw.cell (p := ⟨fb, 1, none⟩) hFlt).trans u8; go_simp
              with_reducible rfl
            try simp only [Act.put, List.setIfInBounds_toArray, List.set_cons_zero, List.set_cons_succ]
            refine sink_take (i := 10) (oi := _) (v := ?_) rfl (by kernel_rfl) (by decide) (by kernel_rfl) (by kernel_rfl) (by kernel_rfl) (by kernel_rfl) (fun _ _ _ h => h) (by rfl) (fun wx hSw => ?_) hHeld ?_
            rotate_left
            · have t0 := (hSw.cell (p := ⟨g, 0, none⟩) hglt).trans u0; have t1 := (hSw.cell (p := ⟨g, 1, none⟩) hglt).trans u1; have t2 := (hSw.cell (p := ⟨g, 2, none⟩) hglt).trans u2; have t3 := (hSw.cell (p := ⟨g, 3, none⟩) hglt).trans u3; have t4 := (hSw.cell (p := ⟨g, 4, none⟩) hglt).trans u4; have t5 := (hSw.cell (p := ⟨g, 5, none⟩) hglt).trans u5; have t6 := (hSw.cell (p := ⟨g, 6, none⟩) hglt).trans u6; have t7 := (hSw.cell (p := ⟨g, 7, none⟩) hglt).trans u7; have t8 := (hSw.cell (p := ⟨fb, 1, none⟩) hFlt).trans u8; go_simp
              with_reducible rfl
            try simp only [Act.put, List.setIfInBounds_toArray, List.set_cons_zero, List.set_cons_succ]
            refine sink_take (i := 11) (oi := _) (v := ?_) rfl (by kernel_rfl) (by decide) (by kernel_rfl) (by kernel_rfl) (by kernel_rfl) (by kernel_rfl) (fun _ _ _ h => h) (by rfl) (fun wx hSw => ?_) hHeld ?_
            rotate_left
            · have t0 := (hSw.cell (p := ⟨g, 0, none⟩) hglt).trans u0; have t1 := (hSw.cell (p := ⟨g, 1, none⟩) hglt).trans u1; have t2 := (hSw.cell (p := ⟨g, 2, none⟩) hglt).trans u2; have t3 := (hSw.cell (p := ⟨g, 3, none⟩) hglt).trans u3; have t4 := (hSw.cell (p := ⟨g, 4, none⟩) hglt).trans u4; have t5 := (hSw.cell (p := ⟨g, 5, none⟩) hglt).trans u5; have t6 := (hSw.cell (p := ⟨g, 6, none⟩) hglt).trans u6; have t7 := (hSw.cell (p := ⟨g, 7, none⟩) hglt).trans u7; have t8 := (hSw.cell (p := ⟨fb, 1, none⟩) hFlt).trans u8; go_simp
              with_reducible rfl
            try simp only [Act.put, List.setIfInBounds_toArray, List.set_cons_zero, List.set_cons_succ]
            refine sink_take (i := 12) (oi := _) (v := ?_) rfl (by kernel_rfl) (by decide) (by kernel_rfl) (by kernel_rfl) (by kernel_rfl) (by kernel_rfl) (fun _ _ _ h => h) (by rfl) (fun wx hSw => ?_) hHeld ?_
            rotate_left
            · have t0 := (hSw.cell (p := ⟨g, 0, none⟩) hglt).trans u0; have t1 := (hSw.cell (p := ⟨g, 1, none⟩) hglt).trans u1; have t2 := (hSw.cell (p := ⟨g, 2, none⟩) hglt).trans u2; have t3 := (hSw.cell (p := ⟨g, 3, none⟩) hglt).trans u3; have t4 := (hSw.cell (p := ⟨g, 4, none⟩) hglt).trans u4; have t5 := (hSw.cell (p := ⟨g, 5, none⟩) hglt).trans u5; have t6 := (hSw.cell (p := ⟨g, 6, none⟩) hglt).trans u6; have t7 := (hSw.cell (p := ⟨g, 7, none⟩) hglt).trans u7; have t8 := (hSw.cell (p := ⟨fb, 1, none⟩) hFlt).trans u8; go_simp
              with_reducible rfl
            try simp only [Act.put, List.setIfInBounds_toArray, List.set_cons_zero, List.set_cons_succ]
            refine sink_take (i := 13) (oi := _) (v := ?_) rfl (by kernel_rfl) (by decide) (by kernel_rfl) (by kernel_rfl) (by kernel_rfl) (by kernel_rfl) (fun _ _ _ h => h) (by rfl) (fun wx hSw => ?_) hHeld ?_
            rotate_left
            · have t0 := (hSw.cell (p := ⟨g, 0, none⟩) hglt).trans u0; have t1 := (hSw.cell (p := ⟨g, 1, none⟩) hglt).trans u1; have t2 := (hSw.cell (p := ⟨g, 2, none⟩) hglt).trans u2; have t3 := (hSw.cell (p := ⟨g, 3, none⟩) hglt).trans u3; have t4 := (hSw.cell (p := ⟨g, 4, none⟩) hglt).trans u4; have t5 := (hSw.cell (p := ⟨g, 5, none⟩) hglt).trans u5; have t6 := (hSw.cell (p := ⟨g, 6, none⟩) hglt).trans u6; have t7 := (hSw.cell (p := ⟨g, 7, none⟩) hglt).trans u7; have t8 := (hSw.cell (p := ⟨fb, 1, none⟩) hFlt).trans u8; go_simp
              with_reducible rfl
            try simp only [Act.put, List.setIfInBounds_toArray, List.set_cons_zero, List.set_cons_succ]
            refine sink_take (i := 14) (oi := _) (v := ?_) rfl (by kernel_rfl) (by decide) (by kernel_rfl) (by kernel_rfl) (by kernel_rfl) (by kernel_rfl) (fun _ _ _ h => h) (by rfl) (fun wx hSw => ?_) hHeld ?_
            rotate_left
            · have t0 := (hSw.cell (p := ⟨g, 0, none⟩) hglt).trans u0; have t1 := (hSw.cell (p := ⟨g, 1, none⟩) hglt).trans u1; have t2 := (hSw.cell (p := ⟨g, 2, none⟩) hglt).trans u2; have t3 := (hSw.cell (p := ⟨g, 3, none⟩) hglt).trans u3; have t4 := (hSw.cell (p := ⟨g, 4, none⟩) hglt).trans u4; have t5 := (hSw.cell (p := ⟨g, 5, none⟩) hglt).trans u5; have t6 := (hSw.cell (p := ⟨g, 6, none⟩) hglt).trans u6; have t7 := (hSw.cell (p := ⟨g, 7, none⟩) hglt).trans u7; have t8 := (hSw.cell (p := ⟨fb, 1, none⟩) hFlt).trans u8; go_simp
              with_reducible rfl
            try simp only [Act.put, List.setIfInBounds_toArray, List.set_cons_zero, List.set_cons_succ]
            refine sink_take (i := 15) (oi := _) (v := ?_) rfl (by kernel_rfl) (by decide) (by kernel_rfl) (by kernel_rfl) (by kernel_rfl) (by kernel_rfl) (fun _ _ _ h => h) (by rfl) (fun wx hSw => ?_) hHeld ?_
            rotate_left
            · have t0 := (hSw.cell (p := ⟨g, 0, none⟩) hglt).trans u0; have t1 := (hSw.cell (p := ⟨g, 1, none⟩) hglt).trans u1; have t2 := (hSw.cell (p := ⟨g, 2, none⟩) hglt).trans u2; have t3 := (hSw.cell (p := ⟨g, 3, none⟩) hglt).trans u3; have t4 := (hSw.cell (p := ⟨g, 4, none⟩) hglt).trans u4; have t5 := (hSw.cell (p := ⟨g, 5, none⟩) hglt).trans u5; have t6 := (hSw.cell (p := ⟨g, 6, none⟩) hglt).trans u6; have t7 := (hSw.cell (p := ⟨g, 7, none⟩) hglt).trans u7; have t8 := (hSw.cell (p := ⟨fb, 1, none⟩) hFlt).trans u8; go_simp
              with_reducible rfl
            try simp only [Act.put, List.setIfInBounds_toArray, List.set_cons_zero, List.set_cons_succ]
            refine sink_take (i := 16) (oi := _) (v := ?_) rfl (by kernel_rfl) (by decide) (by kernel_rfl) (by kernel_rfl) (by kernel_rfl) (by kernel_rfl) (fun _ _ _ h => h) (by rfl) (fun wx hSw => ?_) hHeld ?_
            rotate_left
            · have t0 := (hSw.cell (p := ⟨g, 0, none⟩) hglt).trans u0; have t1 := (hSw.cell (p := ⟨g, 1, none⟩) hglt).trans u1; have t2 := (hSw.cell (p := ⟨g, 2, none⟩) hglt).trans u2; have t3 := (hSw.cell (p := ⟨g, 3, none⟩) hglt).trans u3; have t4 := (hSw.cell (p := ⟨g, 4, none⟩) hglt).trans u4; have t5 := (hSw.cell (p := ⟨g, 5, none⟩) hglt).trans u5; have t6 := (hSw.cell (p := ⟨g, 6, none⟩) hglt).trans u6; have t7 := (hSw.cell (p := ⟨g, 7, none⟩) hglt).trans u7; have t8 := (hSw.cell (p := ⟨fb, 1, none⟩) hFlt).trans u8; go_simp
              with_reducible rfl
            try simp only [Act.put, List.setIfInBounds_toArray, List.set_cons_zero, List.set_cons_succ]
            refine sink_take (i := 17) (oi := _) (v := ?_) rfl (by kernel_rfl) (by decide) (by kernel_rfl) (by kernel_rfl) (by kernel_rfl) (by kernel_rfl) (fun _ _ _ h => h) (by rfl) (fun wx hSw => ?_) hHeld ?_
            rotate_left
            · have t0 := (hSw.cell (p := ⟨g, 0, none⟩) hglt).trans u0; have t1 := (hSw.cell (p := ⟨g, 1, none⟩) hglt).trans u1; have t2 := (hSw.cell (p := ⟨g, 2, none⟩) hglt).trans u2; have t3 := (hSw.cell (p := ⟨g, 3, none⟩) hglt).trans u3; have t4 := (hSw.cell (p := ⟨g, 4, none⟩) hglt).trans u4; have t5 := (hSw.cell (p := ⟨g, 5, none⟩) hglt).trans u5; have t6 := (hSw.cell (p := ⟨g, 6, none⟩) hglt).trans u6; have t7 := (hSw.cell (p := ⟨g, 7, none⟩) hglt).trans u7; have t8 := (hSw.cell (p := ⟨fb, 1, none⟩) hFlt).trans u8; go_simp
              with_reducible rfl
            try simp only [Act.put, List.setIfInBounds_toArray, List.set_cons_zero, List.set_cons_succ]
            refine sink_take (i := 18) (oi := _) (v := ?_) rfl (by kernel_rfl) (by decide) (by kernel_rfl) (by kernel_rfl) (by kernel_rfl) (by kernel_rfl) (fun _ _ _ h => h) (by rfl) (fun wx hSw => ?_) hHeld ?_
            rotate_left
            · have t0 := (hSw.cell (p := ⟨g, 0, none⟩) hglt).trans u0; have t1 := (hSw.cell (p := ⟨g, 1, none⟩) hglt).trans u1; have t2 := (hSw.cell (p := ⟨g, 2, none⟩) hglt).trans u2; have t3 := (hSw.cell (p := ⟨g, 3, none⟩) hglt).trans u3; have t4 := (hSw.cell (p := ⟨g, 4, none⟩) hglt).trans u4; have t5 := (hSw.cell (p := ⟨g, 5, none⟩) hglt).trans u5; have t6 := (hSw.cell (p := ⟨g, 6, none⟩) hglt).trans u6; have t7 := (hSw.cell (p := ⟨g, 7, none⟩) hglt).trans u7; have t8 := (hSw.cell (p := ⟨fb, 1, none⟩) hFlt).trans u8; go_simp
              with_reducible rfl
            try simp only [Act.put, List.setIfInBounds_toArray, List.set_cons_zero, List.set_cons_succ]
            refine sink_take (i := 19) (oi := _) (v := ?_) rfl (by kernel_rfl) (by decide) (by kernel_rfl) (by kernel_rfl) (by kernel_rfl) (by kernel_rfl) (fun _ _ _ h => h) (by rfl) (fun wx hSw => ?_) hHeld ?_
            rotate_left
            · have t0 := (hSw.cell (p := ⟨g, 0, none⟩) hglt).trans u0; have t1 := (hSw.cell (p := ⟨g, 1, none⟩) hglt).trans u1; have t2 := (hSw.cell (p := ⟨g, 2, none⟩) hglt).trans u2; have t3 := (hSw.cell (p := ⟨g, 3, none⟩) hglt).trans u3; have t4 := (hSw.cell (p := ⟨g, 4, none⟩) hglt).trans u4; have t5 := (hSw.cell (p := ⟨g, 5, none⟩) hglt).trans u5; have t6 := (hSw.cell (p := ⟨g, 6, none⟩) hglt).trans u6; have t7 := (hSw.cell (p := ⟨g, 7, none⟩) hglt).trans u7; have t8 := (hSw.cell (p := ⟨fb, 1, none⟩) hFlt).trans u8; go_simp
              with_reducible rfl
            try simp only [Act.put, List.setIfInBounds_toArray, List.set_cons_zero, List.set_cons_succ]
            refine sink_take (i := 20) (oi := _) (v := ?_) rfl (by kernel_rfl) (by decide) (by kernel_rfl) (by kernel_rfl) (by kernel_rfl) (by kernel_rfl) (fun _ _ _ h => h) (by rfl) (fun wx hSw => ?_) hHeld ?_
            rotate_left
            · have t0 := (hSw.cell (p := ⟨g, 0, none⟩) hglt).trans u0; have t1 := (hSw.cell (p := ⟨g, 1, none⟩) hglt).trans u1; have t2 := (hSw.cell (p := ⟨g, 2, none⟩) hglt).trans u2; have t3 := (hSw.cell (p := ⟨g, 3, none⟩) hglt).trans u3; have t4 := (hSw.cell (p := ⟨g, 4, none⟩) hglt).trans u4; have t5 := (hSw.cell (p := ⟨g, 5, none⟩) hglt).trans u5; have t6 := (hSw.cell (p := ⟨g, 6, none⟩) hglt).trans u6; have t7 := (hSw.cell (p := ⟨g, 7, none⟩) hglt).trans u7; have t8 := (hSw.cell (p := ⟨fb, 1, none⟩) hFlt).trans u8; go_simp
              with_reducible rfl
            try simp only [Act.put, List.setIfInBounds_toArray, List.set_cons_zero, List.set_cons_succ]
            refine sink_take (i := 21) (oi := _) (v := ?_) rfl (by kernel_rfl) (by decide) (by kernel_rfl) (by kernel_rfl) (by kernel_rfl) (by kernel_rfl) (fun _ _ _ h => h) (by rfl) (fun wx hSw => ?_) hHeld ?_
            rotate_left
            · have t0 := (hSw.cell (p := ⟨g, 0, none⟩) hglt).trans u0; have t1 := (hSw.cell (p := ⟨g, 1, none⟩) hglt).trans u1; have t2 := (hSw.cell (p := ⟨g, 2, none⟩) hglt).trans u2; have t3 := (hSw.cell (p := ⟨g, 3, none⟩) hglt).trans u3; have t4 := (hSw.cell (p := ⟨g, 4, none⟩) hglt).trans u4; have t5 := (hSw.cell (p := ⟨g, 5, none⟩) hglt).trans u5; have t6 := (hSw.cell (p := ⟨g, 6, none⟩) hglt).trans u6; have t7 := (hSw.cell (p := ⟨g, 7, none⟩) hglt).trans u7; have t8 := (hSw.cell (p := ⟨fb, 1, none⟩) hFlt).trans u8; go_simp
              with_reducible rfl
            try simp only [Act.put, List.setIfInBounds_toArray, List.set_cons_zero, List.set_cons_succ]
            refine sink_take (i := 22) (oi := _) (v := ?_) rfl (by kernel_rfl) (by decide) (by kernel_rfl) (by kernel_rfl) (by kernel_rfl) (by kernel_rfl) (fun _ _ _ h => h) (by rfl) (fun wx hSw => ?_) hHeld ?_
            rotate_left
            · have t0 := (hSw.cell (p := ⟨g, 0, none⟩) hglt).trans u0; have t1 := (hSw.cell (p := ⟨g, 1, none⟩) hglt).trans u1; have t2 := (hSw.cell (p := ⟨g, 2, none⟩) hglt).trans u2; have t3 := (hSw.cell (p := ⟨g, 3, none⟩) hglt).trans u3; have t4 := (hSw.cell (p := ⟨g, 4, none⟩) hglt).trans u4; have t5 := (hSw.cell (p := ⟨g, 5, none⟩) hglt).trans u5; have t6 := (hSw.cell (p := ⟨g, 6, none⟩) hglt).trans u6; have t7 := (hSw.cell (p := ⟨g, 7, none⟩) hglt).trans u7; have t8 := (hSw.cell (p := ⟨fb, 1, none⟩) hFlt).trans u8; go_simp
              with_reducible rfl
            try simp only [Act.put, List.setIfInBounds_toArray, List.set_cons_zero, List.set_cons_succ]
            refine sink_take (i := 23) (oi := _) (v := ?_) rfl (by kernel_rfl) (by decide) (by kernel_rfl) (by kernel_rfl) (by kernel_rfl) (by kernel_rfl) (fun _ _ _ h => h) (by rfl) (fun wx hSw => ?_) hHeld ?_
            rotate_left
            · have t0 := (hSw.cell (p := ⟨g, 0, none⟩) hglt).trans u0; have t1 := (hSw.cell (p := ⟨g, 1, none⟩) hglt).trans u1; have t2 := (hSw.cell (p := ⟨g, 2, none⟩) hglt).trans u2; have t3 := (hSw.cell (p := ⟨g, 3, none⟩) hglt).trans u3; have t4 := (hSw.cell (p := ⟨g, 4, none⟩) hglt).trans u4; have t5 := (hSw.cell (p := ⟨g, 5, none⟩) hglt).trans u5; have t6 := (hSw.cell (p := ⟨g, 6, none⟩) hglt).trans u6; have t7 := (hSw.cell (p := ⟨g, 7, none⟩) hglt).trans u7; have t8 := (hSw.cell (p := ⟨fb, 1, none⟩) hFlt).trans u8; go_simp
              with_reducible rfl
            try simp only [Act.put, List.setIfInBounds_toArray, List.set_cons_zero, List.set_cons_succ]
            refine sink_take (i := 24) (oi := _) (v := ?_) rfl (by kernel_rfl) (by decide) (by kernel_rfl) (by kernel_rfl) (by kernel_rfl) (by kernel_rfl) (fun _ _ _ h => h) (by rfl) (fun wx hSw => ?_) hHeld ?_
            rotate_left
            · have t0 := (hSw.cell (p := ⟨g, 0, none⟩) hglt).trans u0; have t1 := (hSw.cell (p := ⟨g, 1, none⟩) hglt).trans u1; have t2 := (hSw.cell (p := ⟨g, 2, none⟩) hglt).trans u2; have t3 := (hSw.cell (p := ⟨g, 3, none⟩) hglt).trans u3; have t4 := (hSw.cell (p := ⟨g, 4, none⟩) hglt).trans u4; have t5 := (hSw.cell (p := ⟨g, 5, none⟩) hglt).trans u5; have t6 := (hSw.cell (p := ⟨g, 6, none⟩) hglt).trans u6; have t7 := (hSw.cell (p := ⟨g, 7, none⟩) hglt).trans u7; have t8 := (hSw.cell (p := ⟨fb, 1, none⟩) hFlt).trans u8; go_simp
              with_reducible rfl
            try simp only [Act.put, List.setIfInBounds_toArray, List.set_cons_zero, List.set_cons_succ]
            refine sink_take (i := 25) (oi := _) (v := ?_) rfl (by kernel_rfl) (by decide) (by kernel_rfl) (by kernel_rfl) (by kernel_rfl) (by kernel_rfl) (fun _ _ _ h => h) (by rfl) (fun wx hSw => ?_) hHeld ?_
            rotate_left
            · have t0 := (hSw.cell (p := ⟨g, 0, none⟩) hglt).trans u0; have t1 := (hSw.cell (p := ⟨g, 1, none⟩) hglt).trans u1; have t2 := (hSw.cell (p := ⟨g, 2, none⟩) hglt).trans u2; have t3 := (hSw.cell (p := ⟨g, 3, none⟩) hglt).trans u3; have t4 := (hSw.cell (p := ⟨g, 4, none⟩) hglt).trans u4; have t5 := (hSw.cell (p := ⟨g, 5, none⟩) hglt).trans u5; have t6 := (hSw.cell (p := ⟨g, 6, none⟩) hglt).trans u6; have t7 := (hSw.cell (p := ⟨g, 7, none⟩) hglt).trans u7; have t8 := (hSw.cell (p := ⟨fb, 1, none⟩) hFlt).trans u8; go_simp
              with_reducible rfl
            try simp only [Act.put, List.setIfInBounds_toArray, List.set_cons_zero, List.set_cons_succ]
            refine sink_take (i := 26) (oi := _) (v := ?_) rfl (by kernel_rfl) (by decide) (by kernel_rfl) (by kernel_rfl) (by kernel_rfl) (by kernel_rfl) (fun _ _ _ h => h) (by rfl) (fun wx hSw => ?_) hHeld ?_
            rotate_left
            · have t0 := (hSw.cell (p := ⟨g, 0, none⟩) hglt).trans u0; have t1 := (hSw.cell (p := ⟨g, 1, none⟩) hglt).trans u1; have t2 := (hSw.cell (p := ⟨g, 2, none⟩) hglt).trans u2; have t3 := (hSw.cell (p := ⟨g, 3, none⟩) hglt).trans u3; have t4 := (hSw.cell (p := ⟨g, 4, none⟩) hglt).trans u4; have t5 := (hSw.cell (p := ⟨g, 5, none⟩) hglt).trans u5; have t6 := (hSw.cell (p := ⟨g, 6, none⟩) hglt).trans u6; have t7 := (hSw.cell (p := ⟨g, 7, none⟩) hglt).trans u7; have t8 := (hSw.cell (p := ⟨fb, 1, none⟩) hFlt).trans u8; go_simp
              with_reducible rfl
            try simp only [Act.put, List.setIfInBounds_toArray, List.set_cons_zero, List.set_cons_succ]
            refine sink_take (i := 27) (oi := _) (v := ?_) rfl (by kernel_rfl) (by decide) (by kernel_rfl) (by kernel_rfl) (by kernel_rfl) (by kernel_rfl) (fun _ _ _ h => h) (by rfl) (fun wx hSw => ?_) hHeld ?_
            rotate_left
            · have t0 := (hSw.cell (p := ⟨g, 0, none⟩) hglt).trans u0; have t1 := (hSw.cell (p := ⟨g, 1, none⟩) hglt).trans u1; have t2 := (hSw.cell (p := ⟨g, 2, none⟩) hglt).trans u2; have t3 := (hSw.cell (p := ⟨g, 3, none⟩) hglt).trans u3; have t4 := (hSw.cell (p := ⟨g, 4, none⟩) hglt).trans u4; have t5 := (hSw.cell (p := ⟨g, 5, none⟩) hglt).trans u5; have t6 := (hSw.cell (p := ⟨g, 6, none⟩) hglt).trans u6; have t7 := (hSw.cell (p := ⟨g, 7, none⟩) hglt).trans u7; have t8 := (hSw.cell (p := ⟨fb, 1, none⟩) hFlt).trans u8; go_simp
              with_reducible rfl
            try simp only [Act.put, List.setIfInBounds_toArray, List.set_cons_zero, List.set_cons_succ]
            refine sink_ready (rs := [28]) (by kernel_rfl) (by simp) (ReadyL.cons (o := _) rfl (fun K hK => ?_) ReadyL.nil)
            go_simp
            refine hK.out _ _ (hHeld.alloc hHeld.size _) (fun hHeld => ?_)
            clear hK K
            try simp only [Act.put, List.setIfInBounds_toArray, List.set_cons_zero, List.set_cons_succ]
            refine sink_last (by kernel_rfl) rfl (by kernel_rfl) (by kernel_rfl) (fun K hK => ?_)
            go_simp
            refine hK.out _ _ ?_
            clear hK K
            try simp only [Act.put, List.setIfInBounds_toArray, List.set_cons_zero, List.set_cons_succ]
            have bh := ((Below.refl wr.heap.size wr).alloc (Nat.le_refl _) (.cells (headCells n0 n1 n2 n3 n4 ep n5 n6 n7) 55)).drew
            have H9 : Blk (wr.alloc (.cells (headCells n0 n1 n2 n3 n4 ep n5 n6 n7) 55)).drew wr.heap.size 55 (headCells n0 n1 n2 n3 n4 ep n5 n6 n7) := (Blk.new wr _ _).drew
            have R9 := R.below bh R.lt
            have r9 := r.below bh fun b hb _ => hb
            have b9 := bw.trans (bh.mono bw.size)
            have hz9 := R.lt
            go_wp2_with fail
            generalize (wr.alloc (.cells (headCells n0 n1 n2 n3 n4 ep n5 n6 n7) 55)).drew = w9 at *
            clear R F rd r bw bh u0 u1 u2 u3 u4 u5 u6 u7 u8
            generalize wr.heap.size = hb9 at *
            refine (rput12_any ⟨n0, n1, n2, n3, n4, ep, n5, n6, n7⟩ w9).mono ?_
            rintro e w10 ⟨A10, c10, rfl, own10, hc10, b10⟩
            have hput : Hd.put ⟨n0, n1, n2, n3, n4, ep, n5, n6, n7⟩ = hputRes n0 n1 n2 n3 n4 ep n5 n6 n7 := rfl
            rw [hput] at own10 hc10 ⊢
            have H10 := H9.below b10 H9.lt
            have R10 := R9.below b10 R9.lt
            have r10 := r9.below b10 fun b hb h => Nat.lt_trans h R9.lt
            have b10' := b9.trans (b10.mono b9.size)
            clear H9 R9 r9 b9 b10 hput
            generalize hputRes n0 n1 n2 n3 n4 ep n5 n6 n7 = RS at *
            obtain ⟨F9, er⟩ := RS
            simp only at own10 hc10 ⊢
            have k1 := run_str w10 A10 c10 F9 _ (own10.rd (P := fun _ => True) fun _ _ _ _ => trivial)
            have k2 := run_str w10 A c l _ r10
            have k3 := str_eq F9 l
            clear own10 r10
            have z0 : w10.cell? ⟨w.heap.size, 0, none⟩ = some (.int .i64 0) := R10.cell 0
            have z1 : w10.cell? ⟨w.heap.size, 1, none⟩ = some (.int .i64 0) := R10.cell 1
            have z2 : w10.cell? ⟨w.heap.size, 2, none⟩ = some (.int .i64 0) := R10.cell 2
            have z3 : w10.cell? ⟨w.heap.size, 3, none⟩ = some (.int .i64 0) := R10.cell 3
            have z4 : w10.cell? ⟨w.heap.size, 4, none⟩ = some (.int .i64 0) := R10.cell 4
            have z5 : w10.cell? ⟨w.heap.size, 5, none⟩ = some (.int .i64 0) := R10.cell 5
            have z6 : w10.cell? ⟨w.heap.size, 6, none⟩ = some (.int .i64 0) := R10.cell 6
            have z7 : w10.cell? ⟨w.heap.size, 7, none⟩ = some (.int .i64 0) := R10.cell 7
            have z8 : w10.cell? ⟨w.heap.size, 8, none⟩ = some (.int .i64 0) := R10.cell 8
            have zf := R10.frozen
            by_cases her : er = 0
            · subst her
              by_cases heq : F9 = l
              · rw [decide_eq_true heq] at k3
                have hyes := hide (HIFF.out.2 ⟨HL1.out, by trivial, by rw [heq]⟩)
                clear heq
                have h0 : w10.cell? ⟨hb9, 0, none⟩ = some (.int .i64 n0) := H10.cell 0
                have h1 : w10.cell? ⟨hb9, 1, none⟩ = some (.int .i64 n1) := H10.cell 1
                have h2 : w10.cell? ⟨hb9, 2, none⟩ = some (.int .i64 n2) := H10.cell 2
                have h3 : w10.cell? ⟨hb9, 3, none⟩ = some (.int .i64 n3) := H10.cell 3
                have h4 : w10.cell? ⟨hb9, 4, none⟩ = some (.int .i64 n4) := H10.cell 4
                have h5 : w10.cell? ⟨hb9, 5, none⟩ = some (.int .i64 ep) := H10.cell 5
                have h6 : w10.cell? ⟨hb9, 6, none⟩ = some (.int .i64 n5) := H10.cell 6
                have h7 : w10.cell? ⟨hb9, 7, none⟩ = some (.int .i64 n6) := H10.cell 7
                have h8 : w10.cell? ⟨hb9, 8, none⟩ = some (.int .i64 n7) := H10.cell 8
                go_wp2_with fail
                refine bodyPost_ret (v := .tuple #[.agg (headCells n0 n1 n2 n3 n4 ep n5 n6 n7), .int .i64 0]) ?_ rfl (by rw [HF.out]; exact ⟨.inl ⟨hyes.out, rfl⟩, below_setHd b10' w.heap.size (Nat.le_refl _) n0 n1 n2 n3 n4 ep n5 n6 n7⟩)
                exact results_cell2 (p := 2) (u := 3) rfl _ _ w.heap.size _ _ rfl (R10.setHd n0 n1 n2 n3 n4 ep n5 n6 n7) Try.underlying55 rfl head_size
              · rw [decide_eq_false heq] at k3
                have hno := hide (show ¬ isHead l from fun h => heq (congrArg Prod.fst (HIFF.out.1 h).2.2))
                clear heq
                go_wp2_with fail
                refine bodyPost_ret (v := .tuple #[.agg (headCells 0 0 0 0 0 0 0 0 0), .int .i64 4]) ?_ rfl (by rw [HF.out]; exact ⟨.inr ⟨hno.out, rfl⟩, below_setHd b10' w.heap.size (Nat.le_refl _) 0 0 0 0 0 0 0 0 0⟩)
                exact results_cell2 (p := 2) (u := 3) rfl _ _ w.heap.size _ _ rfl (R10.setHd 0 0 0 0 0 0 0 0 0) Try.underlying55 rfl head_size
            · have hno := hide (show ¬ isHead l from fun h => her (congrArg Prod.snd (HIFF.out.1 h).2.2))
              have D9 : (er != 0) = true := by rw [bne_iff_ne]; exact her
              clear her k1 k2 k3
              go_wp2_with fail
              refine bodyPost_ret (v := .tuple #[.agg (headCells 0 0 0 0 0 0 0 0 0), .int .i64 4]) ?_ rfl (by rw [HF.out]; exact ⟨.inr ⟨hno.out, rfl⟩, below_setHd b10' w.heap.size (Nat.le_refl _) 0 0 0 0 0 0 0 0 0⟩)
              exact results_cell2 (p := 2) (u := 3) rfl _ _ w.heap.size _ _ rfl (R10.setHd 0 0 0 0 0 0 0 0 0) Try.underlying55 rfl head_size
      · have D2 : ((n : Int) != 32) = true := by rw [bne_iff_ne]; omega
        have HNO := hide (show ¬ isHead l from fun h => hn (HH.out.1 h).2.1)
        clear hn
        go_wp2_with fail
        refine bodyPost_ret (v := .tuple #[.agg (headCells 0 0 0 0 0 0 0 0 0), .int .i64 4]) ?_ rfl (by rw [HF.out]; exact ⟨.inr ⟨HNO.out, rfl⟩, below_setHd b4 w.heap.size (Nat.le_refl _) 0 0 0 0 0 0 0 0 0⟩)
        exact results_cell2 (p := 2) (u := 3) rfl _ _ w.heap.size _ _ rfl (R4.setHd 0 0 0 0 0 0 0 0 0) Try.underlying55 rfl head_size
    · have D1 : ((l.length : Int) != 512) = true := by rw [bne_iff_ne]; omega
      have HNO := hide (show ¬ isHead l from fun h => hl1 (HH.out.1 h).1)
      clear hl1
      go_wp2_with fail
      refine bodyPost_ret (v := .tuple #[.agg (headCells 0 0 0 0 0 0 0 0 0), .int .i64 4]) ?_ rfl (by rw [HF.out]; exact ⟨.inr ⟨HNO.out, rfl⟩, below_setHd b4 w.heap.size (Nat.le_refl _) 0 0 0 0 0 0 0 0 0⟩)
      exact results_cell2 (p := 2) (u := 3) rfl _ _ w.heap.size _ _ rfl (R4.setHd 0 0 0 0 0 0 0 0 0) Try.underlying55 rfl head_size
  · have hnh : ¬ isHead l := fun h => hno h.1
    have HNO := hide hnh
    have R3 := R1.below b3 R1.lt
    have b4 := (b2.trans (b3.mono b2.size)).alloc (b2.trans (b3.mono b2.size)).size (.cells #[.int .i64 0, .int .i64 0, .int .i64 0, .slice none 0 0] 68)
    have R4 := R3.alloc (.cells #[.int .i64 0, .int .i64 0, .int .i64 0, .slice none 0 0] 68)
    have HF := hide (show HeadPost w l = fun r w' => ((isHead l ∧ r = .returned (.tuple #[.agg (headCells (hNum (hData l) 0) (hNum (hData l) 1) (hNum (hData l) 2) (hNum (hData l) 3) (hNum (hData l) 4) (hEpoch l) (hNum (hData l) 5) (hNum (hData l) 6) (hNum (hData l) 7)), .int .i64 0])) ∨ (¬ isHead l ∧ r = .returned (.tuple #[.agg (headCells 0 0 0 0 0 0 0 0 0), .int .i64 4]))) ∧ Below w.heap.size w w' from rfl)
    clear hno hnh R1 R3 b2 b3 r2
    go_upto_region 2 with fail
    generalize w3.alloc (.cells #[.int .i64 0, .int .i64 0, .int .i64 0, .slice none 0 0] 68) = w4 at *
    have z0 : w4.cell? ⟨w.heap.size, 0, none⟩ = some (.int .i64 0) := R4.cell 0
    have z1 : w4.cell? ⟨w.heap.size, 1, none⟩ = some (.int .i64 0) := R4.cell 1
    have z2 : w4.cell? ⟨w.heap.size, 2, none⟩ = some (.int .i64 0) := R4.cell 2
    have z3 : w4.cell? ⟨w.heap.size, 3, none⟩ = some (.int .i64 0) := R4.cell 3
    have z4 : w4.cell? ⟨w.heap.size, 4, none⟩ = some (.int .i64 0) := R4.cell 4
    have z5 : w4.cell? ⟨w.heap.size, 5, none⟩ = some (.int .i64 0) := R4.cell 5
    have z6 : w4.cell? ⟨w.heap.size, 6, none⟩ = some (.int .i64 0) := R4.cell 6
    have z7 : w4.cell? ⟨w.heap.size, 7, none⟩ = some (.int .i64 0) := R4.cell 7
    have z8 : w4.cell? ⟨w.heap.size, 8, none⟩ = some (.int .i64 0) := R4.cell 8
    have zf := R4.frozen
    go_wp2_with fail
    refine bodyPost_ret (v := .tuple #[.agg (headCells 0 0 0 0 0 0 0 0 0), .int .i64 4]) ?_ rfl (by rw [HF.out]; exact ⟨.inr ⟨HNO.out, rfl⟩, below_setHd b4 w.heap.size (Nat.le_refl _) 0 0 0 0 0 0 0 0 0⟩)
    exact results_cell2 (p := 2) (u := 3) rfl _ _ w.heap.size _ _ rfl (R4.setHd 0 0 0 0 0 0 0 0 0) Try.underlying55 rfl head_size
end Go.Proofs.Ytdkcjmpikmnedaa
