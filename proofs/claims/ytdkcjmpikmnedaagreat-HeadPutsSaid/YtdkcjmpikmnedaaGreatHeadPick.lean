/- The walk through head.Pick. -/
import Derived.Test.YtdkcjmpikmnedaaGreatHeadEq
import Derived.Deep.CutRange
namespace Go.Proofs.YtdkcjmpikmnedaaGreat
open Go.RowKit

/-- A head's numbers. -/
structure Hd where
  v : Int
  s : Int
  g : Int
  u : Int
  j : Int
  nu : Int
  pg : Int
  rt : Int
  sn : Int
abbrev Hd.cs (h : Hd) : Array Value := headCells h.v h.s h.g h.u h.j h.nu h.pg h.rt h.sn
def hd0 : Hd := ⟨0, 0, 0, 0, 0, 0, 0, 0, 0⟩
open Classical in
noncomputable def hd (l : List B8) : Hd := if isHead l then ⟨hNum (hData l) 0, hNum (hData l) 1, hNum (hData l) 2, hNum (hData l) 3, hNum (hData l) 4, hEpoch l, hNum (hData l) 5, hNum (hData l) 6, hNum (hData l) 7⟩ else hd0
theorem hd_yes {l : List B8} (h : isHead l) : hd l = ⟨hNum (hData l) 0, hNum (hData l) 1, hNum (hData l) 2, hNum (hData l) 3, hNum (hData l) 4, hEpoch l, hNum (hData l) 5, hNum (hData l) 6, hNum (hData l) 7⟩ := by unfold hd; rw [if_pos h]
theorem hd_no {l : List B8} (h : ¬ isHead l) : hd l = hd0 := by unfold hd; rw [if_neg h]
theorem hputRes_ok {v s g u j nu pg rt sn : Int} {l : List B8} (h : hputRes v s g u j nu pg rt sn = (l, 0)) : headRight v s g u j pg rt sn := by
  unfold hputRes at h
  by_cases hr : headRight v s g u j pg rt sn
  · exact hr
  · rw [if_neg hr] at h
    have := congrArg Prod.snd h
    simp at this
theorem hd_pg {l : List B8} (h : isHead l) : 1 ≤ (hd l).pg := by
  rw [hd_yes h]
  exact (hputRes_ok h.2.2.2).1.1
/-- What head.Get answers, in one form. -/
theorem head_post {w : World} {l : List B8} {r : Ending} {w' : World} (h : HeadPost w l r w') :
    ∃ er : Int, r = .returned (.tuple #[.agg (hd l).cs, .int .i64 er]) ∧ Hid ((isHead l → er = 0) ∧ (¬ isHead l → er = 4)) ∧ Below w.heap.size w w' := by
  obtain ⟨⟨hy, rfl⟩ | ⟨hno, rfl⟩, hb⟩ := h
  · rw [hd_yes hy]
    exact ⟨0, rfl, hide ⟨fun _ => rfl, fun h => absurd hy h⟩, hb⟩
  · rw [hd_no hno]
    exact ⟨4, rfl, hide ⟨fun h => absurd h hno, fun _ => rfl⟩, hb⟩
/-- What counts, of two. -/
noncomputable def pk (l m : List B8) : Hd × Int := by
  classical
  exact if isHead m ∧ (¬ isHead l ∨ (hd l).nu < (hd m).nu) then (hd m, 1) else if isHead l then (hd l, 0) else (hd0, -1)

set_option maxRecDepth 100000 in
set_option maxHeartbeats 1600000 in
theorem hpick_any (A B : Option Addr) (c c' : Nat) (l m : List B8) (P Q : Nat → Prop) (w : World) (hr : Rd w P A (bs l)) (hs : Rd w Q B (bs m)) (hl : l.length ≤ 1000000) (hm : m.length ≤ 1000000) (hcl : l.length ≤ c) (hcm : m.length ≤ c') :
    Calls Tryz.prog 74 #[.slice A l.length c, .slice B m.length c'] w fun r w' => r = .returned (.tuple #[.agg (pk l m).1.cs, .int .i64 (pk l m).2]) ∧ Below w.heap.size w w' := by
  have b1 := (Below.refl w.heap.size w).alloc (Nat.le_refl _) (.cells (headCells 0 0 0 0 0 0 0 0 0) 56)
  have R1 := Blk.new w 56 (headCells 0 0 0 0 0 0 0 0 0)
  have r1 := (hr.imp (Q := (· < w.heap.size)) fun b hb _ => hb).below b1 fun b hb h => h
  have s1 := (hs.imp (Q := (· < w.heap.size)) fun b hb _ => hb).below b1 fun b hb h => h
  have GT : Tryz.prog.eqGuardType Tryz.prog.depth 56 = false := by kernel_rfl
  have hdec : ∀ n m : Int, ¬ n < m → decide (n < m) = false := fun n m h => decide_eq_false h
  have LP := hd_pg (l := l)
  have MP := hd_pg (l := m)
  have LZ := hd_no (l := l)
  have MZ := hd_no (l := m)
  have HPK : ∀ z, z = pk l m → (isHead m ∧ (¬ isHead l ∨ (hd l).nu < (hd m).nu) → z = (hd m, 1)) ∧ (¬ (isHead m ∧ (¬ isHead l ∨ (hd l).nu < (hd m).nu)) → isHead l → z = (hd l, 0)) ∧ (¬ isHead m → ¬ isHead l → z = (hd0, -1)) := by
    rintro z rfl
    unfold pk
    refine ⟨fun h => if_pos h, fun h h' => by rw [if_neg h, if_pos h'], fun h h' => by rw [if_neg (fun k => h k.1), if_neg h']⟩
  obtain ⟨z, hz⟩ : ∃ z, z = pk l m := ⟨_, rfl⟩
  have HZ := HPK z hz
  rw [← hz]
  clear HPK hz hr hs
  go_enter Tryz.func74, Tryz.ntmps74
  go_wp2_with fail
  generalize w.alloc (.cells (headCells 0 0 0 0 0 0 0 0 0) 56) = w1 at *
  refine (hget_any A c l _ w1 r1 hl hcl).mono ?_
  rintro r w2 hp2
  obtain ⟨ex, rfl, hex, b2⟩ := head_post hp2
  have R2 := R1.below b2 R1.lt
  have s2 := s1.below b2 fun b hb h => Nat.lt_trans h R1.lt
  have b2' := b1.trans (b2.mono b1.size)
  clear hp2 R1 r1 s1 b1 b2
  have ba := (Below.refl w2.heap.size w2).alloc (Nat.le_refl _) (.cells (hd l).cs 56)
  have X3 := Blk.new w2 56 (hd l).cs
  have R3 := R2.below ba R2.lt
  have s3 := s2.below ba fun b hb h => hb
  have b3 := b2'.trans (ba.mono b2'.size)
  have hRlt := R2.lt
  generalize hd l = x at *
  go_wp2_with fail
  generalize w2.alloc (.cells x.cs 56) = w3 at *
  generalize w2.heap.size = xb at *
  clear R2 s2 b2' ba
  refine (hget_any B c' m _ w3 s3 hm hcm).mono ?_
  rintro r w4 hp4
  obtain ⟨ey, rfl, hey, b4⟩ := head_post hp4
  have R4 := R3.below b4 R3.lt
  have X4 := X3.below b4 X3.lt
  have b4' := b3.trans (b4.mono b3.size)
  clear hp4 R3 X3 s3 b3 b4
  generalize hd m = y at *
  have hlt := X4.lt
  have by1 := (Below.refl w4.heap.size w4).alloc (Nat.le_refl _) (.cells y.cs 56)
  have by2 := by1.alloc by1.size (.cells (headCells 0 0 0 0 0 0 0 0 0) 56)
  have R6 := R4.below by2 R4.lt
  have b6 := b4'.trans (by2.mono b4'.size)
  have X6 := X4.below by2 X4.lt
  have Y6 : Blk ((w4.alloc (.cells y.cs 56)).alloc (.cells (headCells 0 0 0 0 0 0 0 0 0) 56)) w4.heap.size 56 y.cs := (Blk.new w4 _ _).alloc _
  have N6 : Blk ((w4.alloc (.cells y.cs 56)).alloc (.cells (headCells 0 0 0 0 0 0 0 0 0) 56)) (w4.heap.size + 1) 56 (headCells 0 0 0 0 0 0 0 0 0) := by
    have := Blk.new (w4.alloc (.cells y.cs 56)) 56 (headCells 0 0 0 0 0 0 0 0 0)
    simpa using this
  have E1 := fun w => head_equal y.v y.s y.g y.u y.j y.nu y.pg y.rt y.sn 0 0 0 0 0 0 0 0 0 w
  have E2 := fun w => head_equal x.v x.s x.g x.u x.j x.nu x.pg x.rt x.sn 0 0 0 0 0 0 0 0 0 w
  clear by1 by2 R4 X4 b4'
  go_upto_region 4 with fail
  generalize (w4.alloc (.cells y.cs 56)).alloc (.cells (headCells 0 0 0 0 0 0 0 0 0) 56) = w6 at *
  have hyb : xb < w4.heap.size := hlt
  generalize w4.heap.size = yb at *
  have r0 : w6.cell? ⟨w.heap.size, 0, none⟩ = some (.int .i64 0) := R6.cell 0
  have r1 : w6.cell? ⟨w.heap.size, 1, none⟩ = some (.int .i64 0) := R6.cell 1
  have r2 : w6.cell? ⟨w.heap.size, 2, none⟩ = some (.int .i64 0) := R6.cell 2
  have r3 : w6.cell? ⟨w.heap.size, 3, none⟩ = some (.int .i64 0) := R6.cell 3
  have r4 : w6.cell? ⟨w.heap.size, 4, none⟩ = some (.int .i64 0) := R6.cell 4
  have r5 : w6.cell? ⟨w.heap.size, 5, none⟩ = some (.int .i64 0) := R6.cell 5
  have r6 : w6.cell? ⟨w.heap.size, 6, none⟩ = some (.int .i64 0) := R6.cell 6
  have r7 : w6.cell? ⟨w.heap.size, 7, none⟩ = some (.int .i64 0) := R6.cell 7
  have r8 : w6.cell? ⟨w.heap.size, 8, none⟩ = some (.int .i64 0) := R6.cell 8
  have x0 : w6.cell? ⟨xb, 0, none⟩ = some (.int .i64 x.v) := X6.cell 0
  have x1 : w6.cell? ⟨xb, 1, none⟩ = some (.int .i64 x.s) := X6.cell 1
  have x2 : w6.cell? ⟨xb, 2, none⟩ = some (.int .i64 x.g) := X6.cell 2
  have x3 : w6.cell? ⟨xb, 3, none⟩ = some (.int .i64 x.u) := X6.cell 3
  have x4 : w6.cell? ⟨xb, 4, none⟩ = some (.int .i64 x.j) := X6.cell 4
  have x5 : w6.cell? ⟨xb, 5, none⟩ = some (.int .i64 x.nu) := X6.cell 5
  have x6 : w6.cell? ⟨xb, 6, none⟩ = some (.int .i64 x.pg) := X6.cell 6
  have x7 : w6.cell? ⟨xb, 7, none⟩ = some (.int .i64 x.rt) := X6.cell 7
  have x8 : w6.cell? ⟨xb, 8, none⟩ = some (.int .i64 x.sn) := X6.cell 8
  have y0 : w6.cell? ⟨yb, 0, none⟩ = some (.int .i64 y.v) := Y6.cell 0
  have y1 : w6.cell? ⟨yb, 1, none⟩ = some (.int .i64 y.s) := Y6.cell 1
  have y2 : w6.cell? ⟨yb, 2, none⟩ = some (.int .i64 y.g) := Y6.cell 2
  have y3 : w6.cell? ⟨yb, 3, none⟩ = some (.int .i64 y.u) := Y6.cell 3
  have y4 : w6.cell? ⟨yb, 4, none⟩ = some (.int .i64 y.j) := Y6.cell 4
  have y5 : w6.cell? ⟨yb, 5, none⟩ = some (.int .i64 y.nu) := Y6.cell 5
  have y6 : w6.cell? ⟨yb, 6, none⟩ = some (.int .i64 y.pg) := Y6.cell 6
  have y7 : w6.cell? ⟨yb, 7, none⟩ = some (.int .i64 y.rt) := Y6.cell 7
  have y8 : w6.cell? ⟨yb, 8, none⟩ = some (.int .i64 y.sn) := Y6.cell 8
  have n0 : w6.cell? ⟨yb + 1, 0, none⟩ = some (.int .i64 0) := N6.cell 0
  have n1 : w6.cell? ⟨yb + 1, 1, none⟩ = some (.int .i64 0) := N6.cell 1
  have n2 : w6.cell? ⟨yb + 1, 2, none⟩ = some (.int .i64 0) := N6.cell 2
  have n3 : w6.cell? ⟨yb + 1, 3, none⟩ = some (.int .i64 0) := N6.cell 3
  have n4 : w6.cell? ⟨yb + 1, 4, none⟩ = some (.int .i64 0) := N6.cell 4
  have n5 : w6.cell? ⟨yb + 1, 5, none⟩ = some (.int .i64 0) := N6.cell 5
  have n6 : w6.cell? ⟨yb + 1, 6, none⟩ = some (.int .i64 0) := N6.cell 6
  have n7 : w6.cell? ⟨yb + 1, 7, none⟩ = some (.int .i64 0) := N6.cell 7
  have n8 : w6.cell? ⟨yb + 1, 8, none⟩ = some (.int .i64 0) := N6.cell 8
  have fR := R6.frozen
  have HB := hide b6
  have HR := hide R6
  have HZZ := hide HZ
  clear b6 R6 X6 Y6 N6 HZ hlt hyb hRlt
  by_cases hM : isHead m
  · have e1 : decide ((y.v = 0 ∧ y.s = 0 ∧ y.g = 0 ∧ y.u = 0 ∧ y.j = 0) ∧ y.nu = 0 ∧ y.pg = 0 ∧ y.rt = 0 ∧ y.sn = 0) = false := decide_eq_false fun h => by have := MP hM; have := h.2.2.1; omega
    simp only [e1] at E1
    clear e1
    have HM := hide hM
    by_cases hL : isHead l
    · have e2 : decide ((x.v = 0 ∧ x.s = 0 ∧ x.g = 0 ∧ x.u = 0 ∧ x.j = 0) ∧ x.nu = 0 ∧ x.pg = 0 ∧ x.rt = 0 ∧ x.sn = 0) = false := decide_eq_false fun h => by have := LP hL; have := h.2.2.1; omega
      simp only [e2] at E2
      obtain rfl := hey.out.1 hM
      obtain rfl := hex.out.1 hL
      have HL := hide hL
      by_cases hn : x.nu < y.nu
      · have D := decide_eq_true hn
        have HE := hide (HZZ.out.1 ⟨hM, .inr hn⟩)
        clear hM hL hn LP MP LZ MZ e2
        go_wp2
        refine bodyPost_ret (v := .tuple #[.agg (headCells y.v y.s y.g y.u y.j y.nu y.pg y.rt y.sn), .int .i64 1]) ?_ rfl ⟨by rw [HE.out], below_setHd HB.out w.heap.size (Nat.le_refl _) y.v y.s y.g y.u y.j y.nu y.pg y.rt y.sn⟩
        exact results_cell2 (p := 4) (u := 5) rfl _ _ w.heap.size _ _ rfl (HR.out.setHd y.v y.s y.g y.u y.j y.nu y.pg y.rt y.sn) Tryz.underlying56 rfl head_size
      · have D := decide_eq_false hn
        have HE := hide (HZZ.out.2.1 (fun h => h.2.elim (fun k => k hL) hn) hL)
        clear hM hL hn LP MP LZ MZ e2
        go_wp2
        refine bodyPost_ret (v := .tuple #[.agg (headCells x.v x.s x.g x.u x.j x.nu x.pg x.rt x.sn), .int .i64 0]) ?_ rfl ⟨by rw [HE.out], below_setHd HB.out w.heap.size (Nat.le_refl _) x.v x.s x.g x.u x.j x.nu x.pg x.rt x.sn⟩
        exact results_cell2 (p := 4) (u := 5) rfl _ _ w.heap.size _ _ rfl (HR.out.setHd x.v x.s x.g x.u x.j x.nu x.pg x.rt x.sn) Tryz.underlying56 rfl head_size
    · have e2 : decide ((x.v = 0 ∧ x.s = 0 ∧ x.g = 0 ∧ x.u = 0 ∧ x.j = 0) ∧ x.nu = 0 ∧ x.pg = 0 ∧ x.rt = 0 ∧ x.sn = 0) = true := decide_eq_true (by rw [LZ hL]; decide)
      simp only [e2] at E2
      obtain rfl := hey.out.1 hM
      obtain rfl := hex.out.2 hL
      have HE := hide (HZZ.out.1 ⟨hM, .inl hL⟩)
      clear hM hL LP MP LZ MZ e2
      go_wp2
      refine bodyPost_ret (v := .tuple #[.agg (headCells y.v y.s y.g y.u y.j y.nu y.pg y.rt y.sn), .int .i64 1]) ?_ rfl ⟨by rw [HE.out], below_setHd HB.out w.heap.size (Nat.le_refl _) y.v y.s y.g y.u y.j y.nu y.pg y.rt y.sn⟩
      exact results_cell2 (p := 4) (u := 5) rfl _ _ w.heap.size _ _ rfl (HR.out.setHd y.v y.s y.g y.u y.j y.nu y.pg y.rt y.sn) Tryz.underlying56 rfl head_size
  · have e1 : decide ((y.v = 0 ∧ y.s = 0 ∧ y.g = 0 ∧ y.u = 0 ∧ y.j = 0) ∧ y.nu = 0 ∧ y.pg = 0 ∧ y.rt = 0 ∧ y.sn = 0) = true := decide_eq_true (by rw [MZ hM]; decide)
    simp only [e1] at E1
    clear e1
    by_cases hL : isHead l
    · obtain rfl := hey.out.2 hM
      obtain rfl := hex.out.1 hL
      have HE := hide (HZZ.out.2.1 (fun h => hM h.1) hL)
      clear hM hL LP MP LZ MZ
      go_wp2
      refine bodyPost_ret (v := .tuple #[.agg (headCells x.v x.s x.g x.u x.j x.nu x.pg x.rt x.sn), .int .i64 0]) ?_ rfl ⟨by rw [HE.out], below_setHd HB.out w.heap.size (Nat.le_refl _) x.v x.s x.g x.u x.j x.nu x.pg x.rt x.sn⟩
      exact results_cell2 (p := 4) (u := 5) rfl _ _ w.heap.size _ _ rfl (HR.out.setHd x.v x.s x.g x.u x.j x.nu x.pg x.rt x.sn) Tryz.underlying56 rfl head_size
    · obtain rfl := hey.out.2 hM
      obtain rfl := hex.out.2 hL
      have HE := hide (HZZ.out.2.2 hM hL)
      clear hM hL LP MP LZ MZ
      go_wp2
      refine bodyPost_ret (v := .tuple #[.agg (headCells 0 0 0 0 0 0 0 0 0), .int .i64 (-1)]) ?_ rfl ⟨by rw [HE.out]; rfl, below_setHd HB.out w.heap.size (Nat.le_refl _) 0 0 0 0 0 0 0 0 0⟩
      exact results_cell2 (p := 4) (u := 5) rfl _ _ w.heap.size _ _ rfl (HR.out.setHd 0 0 0 0 0 0 0 0 0) Tryz.underlying56 rfl head_size
end Go.Proofs.YtdkcjmpikmnedaaGreat
