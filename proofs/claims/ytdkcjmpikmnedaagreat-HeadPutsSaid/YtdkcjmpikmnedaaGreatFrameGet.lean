/- The walk through frame.Get. -/
import Derived.Test.YtdkcjmpikmnedaaGreatFrameKit
import Derived.Deep.RegionHeld3
import Derived.Deep.QuietTactic
import Derived.BigQuiet
namespace Go.Proofs.YtdkcjmpikmnedaaGreat
open Go.RowKit

/-- Part of a row of bytes. -/
theorem Rd.part {w : World} {P : Nat → Prop} {b off : Nat} {l : List B8} (hr : Rd w P (some ⟨b, off, none⟩) (bs l)) (a n : Nat) : Rd w P (some ⟨b, off + a, none⟩) (bs ((l.drop a).take n)) := fun h0 => by
  have hlen : 0 < ((l.drop a).take n).length := by simpa using h0
  rw [List.length_take, List.length_drop] at hlen
  obtain ⟨b', off', hA, hP, hc⟩ := hr (by simp; omega)
  injection hA with hA
  injection hA with h1 h2 h3
  subst h1 h2
  refine ⟨b, off + a, rfl, hP, fun j hj => ?_⟩
  have hj' : j < min n (l.length - a) := by simpa using hj
  rw [Nat.add_assoc, hc (a + j) (by simp; omega), bs_get, bs_get, List.getElem_take, List.getElem_drop]
theorem said_at (A : Option Addr) (c n : Nat) (l : List B8) (P : Nat → Prop) (w : World) (hr : Rd w P A (bs l)) (hl : l.length = n) (hn : n ≤ 8) :
    Calls Tryz.prog 115 #[.slice A n c] w fun e w' => e = .returned (.int .u64 (said l : Nat)) ∧ w = w' := by
  subst hl
  exact said_any A c l P w hr hn

theorem put_at (k e s n : Nat) (A : Option Addr) (c : Nat) (d : List B8) (P : Nat → Prop) (w : World) (hd : d.length = n) (hk : k ≤ 255) (he : e ≤ 1099511627776) (hs : s ≤ 1099511627776) (hn : n ≤ 32768) (hr : Rd w P A (bs d)) :
    Calls Tryz.prog 71 #[.agg #[.int .i64 k, .int .i64 e, .int .i64 s, .slice A n c]] w fun r w' =>
      ∃ g, w.heap.size ≤ g ∧ r = .returned (.tuple #[.slice (some ⟨g, 0, none⟩) (512 * sectors n) (512 * sectors n), .int .i64 0]) ∧ RowB w' g (512 * sectors n) (frameBytes k e s d) ∧ Below w.heap.size w w' := by
  subst hd
  refine (put_good k e s A c d P w hk he hs hn hr).mono ?_
  rintro r w' ⟨⟨g, hg, rfl, hrow⟩, hb⟩
  exact ⟨g, hg, rfl, hrow, hb⟩
theorem hasPrefix_at (A A' : Option Addr) (c c' n : Nat) (l m : List B8) (P Q : Nat → Prop) (w : World) (h1 : Rd w P A (bs l)) (h2 : Rd w Q A' (bs m)) (hn : m.length = n) (hm : n ≤ 140737488351232) (hlc : l.length ≤ c) :
    Calls Tryz.prog 117 #[.slice A l.length c, .slice A' n c'] w fun e w' => e = .returned (.bool (decide (m <+: l))) ∧ w = w' := by
  subst hn
  exact hasPrefix_any A A' c c' l m P Q w h1 h2 hm hlc

/-- What Get answers, at the row of bytes l. -/
def GetPost (w : World) (l : List B8) (r : Ending) (w' : World) : Prop :=
  ((isFrame l ∧ ∃ v, r = .returned (.tuple #[.agg #[.int .i64 (hKind l), .int .i64 (hEpoch l), .int .i64 (hSeq l), v], .int .i64 (sectors (hLen l) : Nat), .int .i64 0]) ∧ OwnB w' w.heap.size v (hData l)) ∨
   (¬ isFrame l ∧ r = .returned (.tuple #[.agg #[.int .i64 0, .int .i64 0, .int .i64 0, .slice none 0 0], .int .i64 0, .int .i64 4]))) ∧ Below w.heap.size w w'

theorem get_short (A : Option Addr) (c : Nat) (l : List B8) (w : World) (h : l.length < 512) :
    Calls Tryz.prog 77 #[.slice A l.length c] w (GetPost w l) := by
  have hn : ¬ isFrame l := fun h' => by have := h'.1; omega
  have HN := hide hn
  have D : decide ((l.length : Int) < 512) = true := decide_eq_true (by omega)
  have B1 : Blk (w.alloc (.cells #[.int .i64 0, .int .i64 0, .int .i64 0, .slice none 0 0] 111)) w.heap.size 111 #[.int .i64 0, .int .i64 0, .int .i64 0, .slice none 0 0] := Blk.new _ _ _
  have b1 : Below w.heap.size w (w.alloc (.cells #[.int .i64 0, .int .i64 0, .int .i64 0, .slice none 0 0] 111)) := (Below.refl _ _).alloc (Nat.le_refl _) _
  clear hn
  go_enter Tryz.func77, Tryz.ntmps77
  go_wp2
  refine bodyPost_ret (v := .tuple #[.agg #[.int .i64 0, .int .i64 0, .int .i64 0, .slice none 0 0], .int .i64 0, .int .i64 4]) ?_ rfl ⟨.inr ⟨HN.out, rfl⟩, b1⟩
  exact results_cell3 (p := 2) (u := 3) (v := 4) rfl _ _ w.heap.size _ _ rfl B1 Tryz.underlying111 rfl frame_size

set_option maxRecDepth 100000 in
set_option maxHeartbeats 1000000 in
theorem get_long (A : Option Addr) (c : Nat) (l : List B8) (P : Nat → Prop) (w : World) (hr : Rd w P A (bs l)) (h : 512 ≤ l.length) (hl : l.length ≤ 1000000) (hc : l.length ≤ c) :
    Calls Tryz.prog 77 #[.slice A l.length c] w (GetPost w l) := by
  have D : decide ((l.length : Int) < 512) = false := decide_eq_false (by omega)
  have B1 : Blk (w.alloc (.cells #[.int .i64 0, .int .i64 0, .int .i64 0, .slice none 0 0] 111)) w.heap.size 111 #[.int .i64 0, .int .i64 0, .int .i64 0, .slice none 0 0] := Blk.new _ _ _
  have b1 : Below w.heap.size w (w.alloc (.cells #[.int .i64 0, .int .i64 0, .int .i64 0, .slice none 0 0] 111)) := (Below.refl _ _).alloc (Nat.le_refl _) _
  obtain ⟨b, off, rfl⟩ : ∃ b off, A = some ⟨b, off, none⟩ := by
    obtain ⟨b, off, rfl, _⟩ := hr (by simp; omega)
    exact ⟨b, off, rfl⟩
  have r1 := (hr.imp (Q := (· < w.heap.size)) fun b hb _ => hb).below b1 fun _ _ hb => hb
  have s1 := r1.part 8 8
  have s2 := r1.part 16 8
  have s3 := r1.part 24 4
  have l1 : ((l.drop 8).take 8).length = 8 := by rw [List.length_take, List.length_drop]; omega
  have l2 : ((l.drop 16).take 8).length = 8 := by rw [List.length_take, List.length_drop]; omega
  have l3 : ((l.drop 24).take 4).length = 4 := by rw [List.length_take, List.length_drop]; omega
  go_enter Tryz.func77, Tryz.ntmps77
  go_wp2
  go_quiet ((go_at_call 115; first | exact quiet_left (said_at _ _ _ _ _ _ (s1.drewN _) l1 (by decide)) | exact quiet_left (said_at _ _ _ _ _ _ (s2.drewN _) l2 (by decide)) | exact quiet_left (said_at _ _ _ _ _ _ (s3.drewN _) l3 (by decide))))
  have B2 := B1.drewN nq
  have b2 := b1.trans (drewN_below w.heap.size _ nq)
  have r2 := r1.drewN nq
  generalize (w.alloc (.cells #[.int .i64 0, .int .i64 0, .int .i64 0, .slice none 0 0] 111)).drewN nq = w2 at *
  clear B1 b1 r1 s1 s2 s3 l1 l2 l3 hr nq
  have hE : hEpoch l = said ((l.drop 8).take 8) := rfl
  have hS : hSeq l = said ((l.drop 16).take 8) := rfl
  have hN : hLen l = said ((l.drop 24).take 4) := rfl
  have zE : said ((l.drop 8).take 8) < 18446744073709551616 := by
    have := said_lt ((l.drop 8).take 8)
    rw [List.length_take, List.length_drop, Nat.min_eq_left (by omega)] at this
    omega
  have zS : said ((l.drop 16).take 8) < 18446744073709551616 := by
    have := said_lt ((l.drop 16).take 8)
    rw [List.length_take, List.length_drop, Nat.min_eq_left (by omega)] at this
    omega
  have zN : said ((l.drop 24).take 4) < 4294967296 := by
    have := said_lt ((l.drop 24).take 4)
    rw [List.length_take, List.length_drop, Nat.min_eq_left (by omega)] at this
    omega
  generalize said ((l.drop 8).take 8) = ep at *
  generalize said ((l.drop 16).take 8) = sq at *
  generalize said ((l.drop 24).take 4) = n at *
  have c20 : w2.cell? ⟨w.heap.size, 0, none⟩ = some (.int .i64 0) := B2.cell 0
  have c21 : w2.cell? ⟨w.heap.size, 1, none⟩ = some (.int .i64 0) := B2.cell 1
  have c22 : w2.cell? ⟨w.heap.size, 2, none⟩ = some (.int .i64 0) := B2.cell 2
  have c23 : w2.cell? ⟨w.heap.size, 3, none⟩ = some (.slice none 0 0) := B2.cell 3
  have f2 := B2.frozen
  by_cases hcond : n ≤ 32768 ∧ ep ≤ 1099511627776 ∧ sq ≤ 1099511627776 ∧ 512 * sectors n ≤ l.length
  · obtain ⟨h1, h2, h3, h4⟩ := hcond
    have D1 : decide (32768 < (n : Int)) = false := decide_eq_false (by omega)
    have D2 : decide (1099511627776 < (ep : Int)) = false := decide_eq_false (by omega)
    have D3 : decide (1099511627776 < (sq : Int)) = false := decide_eq_false (by omega)
    have D4 : decide ((l.length : Int) < 512 * (sectors n : Int)) = false := decide_eq_false (by omega)
    have hsn : 512 * sectors n ≥ n + 32 := by unfold sectors; omega
    go_wp2_with (first | (go_at_call 109; refine (sectors_any _ _ (by omega)).mono ?_; rintro r w' ⟨rfl, rfl⟩) | fail)
    have hdl : ((l.drop 28).take n).length = n := by rw [List.length_take, List.length_drop]; omega
    obtain ⟨x4, hx4⟩ : ∃ x, x = l[4]'(by omega) := ⟨_, rfl⟩
    have c4 : w2.cell? ⟨b, off + 4, none⟩ = some (.int .u8 (x4.toNat : Int)) := by
      obtain ⟨b', off', hA, _, hcc⟩ := r2 (by simp; omega)
      injection hA with hA
      injection hA with q1 q2 q3
      subst q1 q2
      rw [hcc 4 (by simp; omega), bs_get, hx4]
    have CL : ∀ wx, Below w2.heap.size w2 wx → Calls Tryz.prog 116 #[.slice (some ⟨b, off + 28, none⟩) n (c - 28)] wx fun e w' =>
        ∃ A3 c3, e = .returned (.slice A3 n c3) ∧ OwnB w' wx.heap.size (.slice A3 n c3) ((l.drop 28).take n) ∧ Below wx.heap.size wx w' ∧ w'.cell? ⟨b, off + 4, none⟩ = some (.int .u8 (x4.toNat : Int)) ∧ b ≠ w'.heap.size ∧ w'.heap.size ≠ b := by
      intro wx hbx
      have hbl : b < w2.heap.size := World.block_lt_of_cell? w2 _ c4
      have := clone_any (some ⟨b, off + 28, none⟩) (c - 28) ((l.drop 28).take n) _ wx ((r2.part 28 n).below hbx fun b hb _ => hb) (by rw [hdl]; omega) (fun h => by cases h)
      rw [hdl] at this
      refine this.mono ?_
      rintro e w' ⟨⟨v, rfl, own⟩, hb⟩
      obtain ⟨A3, c3, rfl, _⟩ := own.form
      rw [hdl] at *
      have := hbx.size
      have := hb.size
      refine ⟨A3, c3, rfl, own, hb, ?_, by omega, by omega⟩
      rw [hb.cell (Nat.lt_of_lt_of_le hbl hbx.size), hbx.cell hbl]
      exact c4
    have CL2 : Calls Tryz.prog 116 #[.slice (some ⟨b, off + 28, none⟩) n (c - 28)] (w2.alloc (.cells #[.int .i64 0, .int .i64 0, .int .i64 0, .slice none 0 0] 111)).drew fun e w' =>
        ∃ A3 c3, e = .returned (.slice A3 n c3) ∧ OwnB w' (w2.heap.size + 1) (.slice A3 n c3) ((l.drop 28).take n) ∧ Below w2.heap.size w2 w' ∧ w'.cell? ⟨b, off + 4, none⟩ = some (.int .u8 (x4.toNat : Int)) ∧ b ≠ w2.heap.size ∧ w2.heap.size ≠ b ∧
          Blk w' w2.heap.size 111 #[.int .i64 0, .int .i64 0, .int .i64 0, .slice none 0 0] ∧ w'.cell? ⟨w2.heap.size, 0, none⟩ = some (.int .i64 0) ∧ w'.cell? ⟨w2.heap.size, 1, none⟩ = some (.int .i64 0) ∧ w'.cell? ⟨w2.heap.size, 2, none⟩ = some (.int .i64 0) ∧ w'.cell? ⟨w2.heap.size, 3, none⟩ = some (.slice none 0 0) ∧ ∀ i, w'.frozen? ⟨w2.heap.size, i, none⟩ = false := by
      have hBN := Blk.new w2 111 #[.int .i64 0, .int .i64 0, .int .i64 0, .slice none 0 0]
      have hba := ((Below.refl w2.heap.size w2).alloc (Nat.le_refl _) (.cells #[.int .i64 0, .int .i64 0, .int .i64 0, .slice none 0 0] 111)).drew
      have hz : (w2.alloc (.cells #[.int .i64 0, .int .i64 0, .int .i64 0, .slice none 0 0] 111)).drew.heap.size = w2.heap.size + 1 := by simp
      refine (CL _ hba).mono ?_
      rintro e w' ⟨A3, c3, rfl, own, hb, k4, _, _⟩
      rw [hz] at own hb
      have hBN' := hBN.drew.below hb (Nat.lt_succ_self _)
      have hbl : b < w2.heap.size := World.block_lt_of_cell? w2 _ c4
      exact ⟨A3, c3, rfl, own, hba.trans (hb.mono (Nat.le_succ _)), k4, by omega, by omega, hBN', hBN'.cell 0, hBN'.cell 1, hBN'.cell 2, hBN'.cell 3, hBN'.frozen⟩
    have CL3 := CL _ (Below.refl w2.heap.size w2).drew
    have i1 : (4 : Int) < (l.length : Int) := by omega
    have i0 : 4 < l.length := by omega
    have i5 : IntKind.u64.wrap (28 + (n : Int)) = 28 + (n : Int) := by rw [IntKind.wrap_u64]; omega
    have i6 : (28 : Int) ≤ 28 + (n : Int) := by omega
    have j2 : (ep : Int) ≤ 1099511627776 := by omega
    have j3 : (sq : Int) ≤ 1099511627776 := by omega
    have j4 : IntKind.i64.wrap (ep : Int) = (ep : Int) := IntWalk.i64_in _ (by omega)
    have j5 : IntKind.i64.wrap (sq : Int) = (sq : Int) := IntWalk.i64_in _ (by omega)
    have i8 : ¬ c = 28 := by omega
    have i9 : (28 + (n : Int)).toNat - 28 = n := by omega
    have i7 : (0 : Int) ≤ 28 + (n : Int) := by omega
    have i2 : (28 : Int) + (n : Int) ≤ (c : Int) := by omega
    have i3 : 28 + n ≤ c := by omega
    have i4 : (n : Int) ≤ 32768 := by omega
    have CH := hide CL
    have HX := hide hx4
    have j6 : IntKind.i64.wrap (x4.toNat : Int) = (x4.toNat : Int) := IntWalk.i64_in _ (by have := x4.isLt; omega)
    clear CL hx4
    have hw2 := B2.lt
    go_region_held3 (fun w' => w'.cell? ⟨b, off + 4, none⟩ = some (.int .u8 (x4.toNat : Int))) (first | exact c4 | exact k4 | go_keep) (first | (go_at_call 116; (with_reducible refine CL2.mono ?_); rintro e w3 ⟨A3, c3, rfl, own3, b3, k4, k5, k6, BN, n0, n1, n2, n3, nf⟩) | (go_at_call 116; (with_reducible refine CL3.mono ?_); rintro e w3 ⟨A3, c3, rfl, own3, b3, k4, k5, k6⟩))
    · have BF : Blk (w3.alloc (.cells #[.int .i64 (x4.toNat : Int), .int .i64 (ep : Int), .int .i64 (sq : Int), .slice A3 n c3] 111)) w3.heap.size 111 #[.int .i64 (x4.toNat : Int), .int .i64 (ep : Int), .int .i64 (sq : Int), .slice A3 n c3] := Blk.new _ _ _
      have own4 : OwnB (w3.alloc (.cells #[.int .i64 (x4.toNat : Int), .int .i64 (ep : Int), .int .i64 (sq : Int), .slice A3 n c3] 111)) w2.heap.size (.slice A3 n c3) ((l.drop 28).take n) := OwnB.alloc own3 _
      have b3' : Below w2.heap.size w2 w3 := (Below.refl w2.heap.size w2).drew.trans b3
      have b4 := b3'.alloc b3'.size (.cells #[.int .i64 (x4.toNat : Int), .int .i64 (ep : Int), .int .i64 (sq : Int), .slice A3 n c3] 111)
      have hfb : w2.heap.size ≤ w3.heap.size := b3'.size
      generalize w3.alloc (.cells #[.int .i64 (x4.toNat : Int), .int .i64 (ep : Int), .int .i64 (sq : Int), .slice A3 n c3] 111) = w4 at *
      generalize w3.heap.size = fb at *
      clear own3 b3 k4 k5 k6 b3'
      clear c20 c21 c22 c23 f2 c4 D D1 D2 D3 D4 i0 i1 i2 i3 i5 i6 i7 i8 i9 j2 j3 j4 j5 j6
      have hfl := BF.lt
      have e0 : w4.cell? ⟨fb, 0, none⟩ = some (.int .i64 (x4.toNat : Int)) := BF.cell 0
      have e1 : w4.cell? ⟨fb, 1, none⟩ = some (.int .i64 (ep : Int)) := BF.cell 1
      have e2 : w4.cell? ⟨fb, 2, none⟩ = some (.int .i64 (sq : Int)) := BF.cell 2
      have e3 : w4.cell? ⟨fb, 3, none⟩ = some (.slice A3 n c3) := BF.cell 3
      go_wp2_with fail
      have own4' : OwnB w4 w2.heap.size (.slice A3 ((l.drop 28).take n).length c3) ((l.drop 28).take n) := by rw [hdl]; exact own4
      refine (put_at x4.toNat ep sq n A3 c3 ((l.drop 28).take n) _ w4 hdl (by have := x4.isLt; omega) h2 h3 h1 (own4'.rd (P := fun _ => True) fun _ _ _ _ => trivial)).mono ?_
      clear own4' e0 e1 e2 e3
      rintro r w5 ⟨g, hg, rfl, hrow, b5⟩
      have BF5 := BF.below b5 hfl
      have own5 := own4.below b5
      have b5' := b4.trans (b5.mono b4.size)
      have B5 := B2.below b5' hw2
      have b5w := b2.trans (b5'.mono b2.size)
      have r5 := r2.below b5' fun b hb _ => hb
      clear BF own4 b4 b5 B2 b2 r2
      have hfr : (frameBytes x4.toNat ep sq ((l.drop 28).take n)).length = 512 * sectors n := by rw [frameBytes_length, hdl]
      have hfields : hKind l = x4.toNat := by
        unfold hKind
        rw [List.getD_eq_getElem?_getD, List.getElem?_eq_getElem (by omega), HX.out]
        rfl
      have hdata : hData l = (l.drop 28).take n := by unfold hData; rw [hN]
      go_wp2_with fail
      have HP := hasPrefix_at (some ⟨b, off, none⟩) (some ⟨g, 0, none⟩) c (512 * sectors n) (512 * sectors n) l (frameBytes x4.toNat ep sq ((l.drop 28).take n)) _ (fun _ => True) w5 r5 (hrow.rd trivial) hfr (by omega) hc
      refine HP.mono ?_
      clear HP
      rintro r w6 ⟨rfl, rfl⟩
      by_cases hp : frameBytes x4.toNat ep sq ((l.drop 28).take n) <+: l
      · rw [decide_eq_true hp]
        have hyes : isFrame l := ⟨h, by rw [hN]; exact h1, by rw [hE]; exact h2, by rw [hS]; exact h3, by rw [hE, hS, hfields, hdata]; exact hp, by rw [hN]; exact h4⟩
        have HY := hide hyes
        have HK := hide hfields
        have HD := hide hdata
        clear hyes hp hfields hdata
        have d0 : w5.cell? ⟨w.heap.size, 0, none⟩ = some (.int .i64 0) := B5.cell 0
        have d1 : w5.cell? ⟨w.heap.size, 1, none⟩ = some (.int .i64 0) := B5.cell 1
        have d2 : w5.cell? ⟨w.heap.size, 2, none⟩ = some (.int .i64 0) := B5.cell 2
        have d3 : w5.cell? ⟨w.heap.size, 3, none⟩ = some (.slice none 0 0) := B5.cell 3
        have f5 := B5.frozen
        have e0 : w5.cell? ⟨fb, 0, none⟩ = some (.int .i64 (x4.toNat : Int)) := BF5.cell 0
        have e1 : w5.cell? ⟨fb, 1, none⟩ = some (.int .i64 (ep : Int)) := BF5.cell 1
        have e2 : w5.cell? ⟨fb, 2, none⟩ = some (.int .i64 (sq : Int)) := BF5.cell 2
        have e3 : w5.cell? ⟨fb, 3, none⟩ = some (.slice A3 n c3) := BF5.cell 3
        go_wp2
        have own6 := own5.kept (only_setFr w5 w.heap.size (x4.toNat : Int) (ep : Int) (sq : Int) (.slice A3 n c3)) (.inr fun e => by have := (own5.lt _ e).1; omega)
        refine bodyPost_ret (v := .tuple #[.agg #[.int .i64 (x4.toNat : Int), .int .i64 (ep : Int), .int .i64 (sq : Int), .slice A3 n c3], .int .i64 (sectors n : Nat), .int .i64 0]) ?_ rfl
          ⟨.inl ⟨HY.out, .slice A3 n c3, by rw [HK.out, hE, hS, hN], by rw [HD.out]; exact own6.mono (Nat.le_of_lt hw2)⟩, below_setFr b5w w.heap.size (Nat.le_refl _) _ _ _ _⟩
        exact results_cell3 (p := 2) (u := 3) (v := 4) rfl _ _ w.heap.size _ _ rfl (B5.setFr _ _ _ _) Tryz.underlying111 rfl frame_size
      · rw [decide_eq_false hp]
        have hno : ¬ isFrame l := by
          intro ⟨_, _, _, _, i5, _⟩
          rw [hE, hS, hfields, hdata] at i5
          exact hp i5
        have HY := hide hno
        clear hno hp hfields hdata
        have d0 : w5.cell? ⟨w.heap.size, 0, none⟩ = some (.int .i64 0) := B5.cell 0
        have d1 : w5.cell? ⟨w.heap.size, 1, none⟩ = some (.int .i64 0) := B5.cell 1
        have d2 : w5.cell? ⟨w.heap.size, 2, none⟩ = some (.int .i64 0) := B5.cell 2
        have d3 : w5.cell? ⟨w.heap.size, 3, none⟩ = some (.slice none 0 0) := B5.cell 3
        have f5 := B5.frozen
        go_wp2
        refine bodyPost_ret (v := .tuple #[.agg #[.int .i64 0, .int .i64 0, .int .i64 0, .slice none 0 0], .int .i64 0, .int .i64 4]) ?_ rfl ⟨.inr ⟨HY.out, rfl⟩, below_setFr b5w w.heap.size (Nat.le_refl _) 0 0 0 (.slice none 0 0)⟩
        exact results_cell3 (p := 2) (u := 3) (v := 4) rfl _ _ w.heap.size _ _ rfl (B5.setFr 0 0 0 (.slice none 0 0)) Tryz.underlying111 rfl frame_size
    · have BF := BN.setFr (x4.toNat : Int) (ep : Int) (sq : Int) (.slice A3 n c3)
      have own4 : OwnB (setFr w3 w2.heap.size (x4.toNat : Int) (ep : Int) (sq : Int) (.slice A3 n c3)) w2.heap.size (.slice A3 n c3) ((l.drop 28).take n) := by
        have := own3.kept (only_setFr w3 w2.heap.size (x4.toNat : Int) (ep : Int) (sq : Int) (.slice A3 n c3)) (.inr fun e => by have := (own3.lt _ e).1; omega)
        exact this.mono (Nat.le_succ _)
      have b4 := below_setFr b3 w2.heap.size (Nat.le_refl _) (x4.toNat : Int) (ep : Int) (sq : Int) (.slice A3 n c3)
      have hfb : w2.heap.size ≤ w2.heap.size := Nat.le_refl _
      simp only [setFr] at BF own4 b4
      clear own3 b3 k4 k5 k6 BN n0 n1 n2 n3 nf
      generalize (((w3.setCell ⟨w2.heap.size, 0, none⟩ (.int .i64 (x4.toNat : Int))).setCell ⟨w2.heap.size, 1, none⟩ (.int .i64 (ep : Int))).setCell ⟨w2.heap.size, 2, none⟩ (.int .i64 (sq : Int))).setCell ⟨w2.heap.size, 3, none⟩ (.slice A3 n c3) = w4 at *
      obtain ⟨fb, hfbe⟩ : ∃ fb, fb = w2.heap.size := ⟨_, rfl⟩
      rw [← hfbe] at BF ⊢
      rw [← hfbe] at hfb
      have hfb : w2.heap.size ≤ fb := Nat.le_of_eq hfbe.symm
      have HFB := hide hfbe
      clear hfbe
      clear c20 c21 c22 c23 f2 c4 D D1 D2 D3 D4 i0 i1 i2 i3 i5 i6 i7 i8 i9 j2 j3 j4 j5 j6
      have hfl := BF.lt
      have e0 : w4.cell? ⟨fb, 0, none⟩ = some (.int .i64 (x4.toNat : Int)) := BF.cell 0
      have e1 : w4.cell? ⟨fb, 1, none⟩ = some (.int .i64 (ep : Int)) := BF.cell 1
      have e2 : w4.cell? ⟨fb, 2, none⟩ = some (.int .i64 (sq : Int)) := BF.cell 2
      have e3 : w4.cell? ⟨fb, 3, none⟩ = some (.slice A3 n c3) := BF.cell 3
      go_wp2_with fail
      have own4' : OwnB w4 w2.heap.size (.slice A3 ((l.drop 28).take n).length c3) ((l.drop 28).take n) := by rw [hdl]; exact own4
      refine (put_at x4.toNat ep sq n A3 c3 ((l.drop 28).take n) _ w4 hdl (by have := x4.isLt; omega) h2 h3 h1 (own4'.rd (P := fun _ => True) fun _ _ _ _ => trivial)).mono ?_
      clear own4' e0 e1 e2 e3
      rintro r w5 ⟨g, hg, rfl, hrow, b5⟩
      have BF5 := BF.below b5 hfl
      have own5 := own4.below b5
      have b5' := b4.trans (b5.mono b4.size)
      have B5 := B2.below b5' hw2
      have b5w := b2.trans (b5'.mono b2.size)
      have r5 := r2.below b5' fun b hb _ => hb
      clear BF own4 b4 b5 B2 b2 r2
      have hfr : (frameBytes x4.toNat ep sq ((l.drop 28).take n)).length = 512 * sectors n := by rw [frameBytes_length, hdl]
      have hfields : hKind l = x4.toNat := by
        unfold hKind
        rw [List.getD_eq_getElem?_getD, List.getElem?_eq_getElem (by omega), HX.out]
        rfl
      have hdata : hData l = (l.drop 28).take n := by unfold hData; rw [hN]
      go_wp2_with fail
      have HP := hasPrefix_at (some ⟨b, off, none⟩) (some ⟨g, 0, none⟩) c (512 * sectors n) (512 * sectors n) l (frameBytes x4.toNat ep sq ((l.drop 28).take n)) _ (fun _ => True) w5 r5 (hrow.rd trivial) hfr (by omega) hc
      refine HP.mono ?_
      clear HP
      rintro r w6 ⟨rfl, rfl⟩
      by_cases hp : frameBytes x4.toNat ep sq ((l.drop 28).take n) <+: l
      · rw [decide_eq_true hp]
        have hyes : isFrame l := ⟨h, by rw [hN]; exact h1, by rw [hE]; exact h2, by rw [hS]; exact h3, by rw [hE, hS, hfields, hdata]; exact hp, by rw [hN]; exact h4⟩
        have HY := hide hyes
        have HK := hide hfields
        have HD := hide hdata
        clear hyes hp hfields hdata
        have d0 : w5.cell? ⟨w.heap.size, 0, none⟩ = some (.int .i64 0) := B5.cell 0
        have d1 : w5.cell? ⟨w.heap.size, 1, none⟩ = some (.int .i64 0) := B5.cell 1
        have d2 : w5.cell? ⟨w.heap.size, 2, none⟩ = some (.int .i64 0) := B5.cell 2
        have d3 : w5.cell? ⟨w.heap.size, 3, none⟩ = some (.slice none 0 0) := B5.cell 3
        have f5 := B5.frozen
        have e0 : w5.cell? ⟨fb, 0, none⟩ = some (.int .i64 (x4.toNat : Int)) := BF5.cell 0
        have e1 : w5.cell? ⟨fb, 1, none⟩ = some (.int .i64 (ep : Int)) := BF5.cell 1
        have e2 : w5.cell? ⟨fb, 2, none⟩ = some (.int .i64 (sq : Int)) := BF5.cell 2
        have e3 : w5.cell? ⟨fb, 3, none⟩ = some (.slice A3 n c3) := BF5.cell 3
        go_wp2
        have own6 := own5.kept (only_setFr w5 w.heap.size (x4.toNat : Int) (ep : Int) (sq : Int) (.slice A3 n c3)) (.inr fun e => by have := (own5.lt _ e).1; omega)
        refine bodyPost_ret (v := .tuple #[.agg #[.int .i64 (x4.toNat : Int), .int .i64 (ep : Int), .int .i64 (sq : Int), .slice A3 n c3], .int .i64 (sectors n : Nat), .int .i64 0]) ?_ rfl
          ⟨.inl ⟨HY.out, .slice A3 n c3, by rw [HK.out, hE, hS, hN], by rw [HD.out]; exact own6.mono (Nat.le_of_lt hw2)⟩, below_setFr b5w w.heap.size (Nat.le_refl _) _ _ _ _⟩
        exact results_cell3 (p := 2) (u := 3) (v := 4) rfl _ _ w.heap.size _ _ rfl (B5.setFr _ _ _ _) Tryz.underlying111 rfl frame_size
      · rw [decide_eq_false hp]
        have hno : ¬ isFrame l := by
          intro ⟨_, _, _, _, i5, _⟩
          rw [hE, hS, hfields, hdata] at i5
          exact hp i5
        have HY := hide hno
        clear hno hp hfields hdata
        have d0 : w5.cell? ⟨w.heap.size, 0, none⟩ = some (.int .i64 0) := B5.cell 0
        have d1 : w5.cell? ⟨w.heap.size, 1, none⟩ = some (.int .i64 0) := B5.cell 1
        have d2 : w5.cell? ⟨w.heap.size, 2, none⟩ = some (.int .i64 0) := B5.cell 2
        have d3 : w5.cell? ⟨w.heap.size, 3, none⟩ = some (.slice none 0 0) := B5.cell 3
        have f5 := B5.frozen
        go_wp2
        refine bodyPost_ret (v := .tuple #[.agg #[.int .i64 0, .int .i64 0, .int .i64 0, .slice none 0 0], .int .i64 0, .int .i64 4]) ?_ rfl ⟨.inr ⟨HY.out, rfl⟩, below_setFr b5w w.heap.size (Nat.le_refl _) 0 0 0 (.slice none 0 0)⟩
        exact results_cell3 (p := 2) (u := 3) (v := 4) rfl _ _ w.heap.size _ _ rfl (B5.setFr 0 0 0 (.slice none 0 0)) Tryz.underlying111 rfl frame_size
  · have HC := hide hcond
    have hni : ¬ isFrame l := by
      intro ⟨_, i2, i3, i4, _, i6⟩
      rw [hN] at i2 i6
      rw [hE] at i3
      rw [hS] at i4
      exact hcond ⟨i2, i3, i4, i6⟩
    have HI := hide hni
    clear hni
    by_cases h1 : n ≤ 32768
    · have D1 : decide (32768 < (n : Int)) = false := decide_eq_false (by omega)
      by_cases h2 : ep ≤ 1099511627776
      · have D2 : decide (1099511627776 < (ep : Int)) = false := decide_eq_false (by omega)
        by_cases h3 : sq ≤ 1099511627776
        · have D3 : decide (1099511627776 < (sq : Int)) = false := decide_eq_false (by omega)
          have D4 : decide ((l.length : Int) < 512 * (sectors n : Int)) = true := decide_eq_true (by omega)
          have hsI : (sectors n : Int) ≤ 8388610 := by unfold sectors; omega
          clear hcond
          go_wp2_with (first | (go_at_call 109; refine (sectors_any _ _ (by omega)).mono ?_; rintro r w' ⟨rfl, rfl⟩) | fail)
          refine bodyPost_ret (v := .tuple #[.agg #[.int .i64 0, .int .i64 0, .int .i64 0, .slice none 0 0], .int .i64 0, .int .i64 4]) ?_ rfl ⟨.inr ⟨HI.out, rfl⟩, below_setFr b2 w.heap.size (Nat.le_refl _) 0 0 0 (.slice none 0 0)⟩
          exact results_cell3 (p := 2) (u := 3) (v := 4) rfl _ _ w.heap.size _ _ rfl (B2.setFr 0 0 0 (.slice none 0 0)) Tryz.underlying111 rfl frame_size
        · have D3 : decide (1099511627776 < (sq : Int)) = true := decide_eq_true (by omega)
          clear hcond
          go_wp2
          refine bodyPost_ret (v := .tuple #[.agg #[.int .i64 0, .int .i64 0, .int .i64 0, .slice none 0 0], .int .i64 0, .int .i64 4]) ?_ rfl ⟨.inr ⟨HI.out, rfl⟩, below_setFr b2 w.heap.size (Nat.le_refl _) 0 0 0 (.slice none 0 0)⟩
          exact results_cell3 (p := 2) (u := 3) (v := 4) rfl _ _ w.heap.size _ _ rfl (B2.setFr 0 0 0 (.slice none 0 0)) Tryz.underlying111 rfl frame_size
      · have D2 : decide (1099511627776 < (ep : Int)) = true := decide_eq_true (by omega)
        clear hcond
        go_wp2
        refine bodyPost_ret (v := .tuple #[.agg #[.int .i64 0, .int .i64 0, .int .i64 0, .slice none 0 0], .int .i64 0, .int .i64 4]) ?_ rfl ⟨.inr ⟨HI.out, rfl⟩, below_setFr b2 w.heap.size (Nat.le_refl _) 0 0 0 (.slice none 0 0)⟩
        exact results_cell3 (p := 2) (u := 3) (v := 4) rfl _ _ w.heap.size _ _ rfl (B2.setFr 0 0 0 (.slice none 0 0)) Tryz.underlying111 rfl frame_size
    · have D1 : decide (32768 < (n : Int)) = true := decide_eq_true (by omega)
      clear hcond
      go_wp2
      refine bodyPost_ret (v := .tuple #[.agg #[.int .i64 0, .int .i64 0, .int .i64 0, .slice none 0 0], .int .i64 0, .int .i64 4]) ?_ rfl ⟨.inr ⟨HI.out, rfl⟩, below_setFr b2 w.heap.size (Nat.le_refl _) 0 0 0 (.slice none 0 0)⟩
      exact results_cell3 (p := 2) (u := 3) (v := 4) rfl _ _ w.heap.size _ _ rfl (B2.setFr 0 0 0 (.slice none 0 0)) Tryz.underlying111 rfl frame_size
end Go.Proofs.YtdkcjmpikmnedaaGreat
