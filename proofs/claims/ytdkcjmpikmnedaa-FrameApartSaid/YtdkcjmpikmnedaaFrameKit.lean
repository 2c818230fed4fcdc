/- The walks through peatbankkit's functions on frames. -/
import Derived.Test.YtdkcjmpikmnedaaFramePut
namespace Go.Proofs.Ytdkcjmpikmnedaa
open Go.RowKit

theorem RowB.far {w : World} {g cap : Nat} {l : List B8} (h : RowB w g cap l) {p : Addr} (hp : g ≠ p.block) (u : Value) : RowB (w.setCell p u) g cap l :=
  h.only (only_setCell (only_refl w (some p.block)) (.inl rfl) u) (by simpa using hp)
theorem Rd.far {w : World} {P : Nat → Prop} {A : Option Addr} {xs : List Value} (h : Rd w P A xs) {p : Addr} (hp : ∀ b, P b → b ≠ p.block) (u : Value) : Rd (w.setCell p u) P A xs :=
  h.only (only_setCell (only_refl w (some p.block)) (.inl rfl) u) (fun b hb => by simpa using hp b hb)

section
variable {P : Program}
theorem results_cell1 {fn : Func} {p : Tmp} {ty : TypeId} (h : fn.results = #[.cell p ty]) (tmps : Array Value) (w : World) (g : Nat) (cs : Array Value) (d : TypeDesc)
    (hp : tmps.getD p undef = .pointer (some ⟨g, 0, none⟩)) (hg : Blk w g ty cs) (hu : P.underlying ty = some d) (hd : (match d with | .struct _ | .array _ _ => true | _ => false) = true) (hi : (P.info? ty).map (·.size) = some cs.size) :
    (results fn tmps).run P w = .ok (.agg cs) w := results_cell_row h tmps w g ty cs (0, 0) d hp hg hu hd hi
theorem results_cell2 {fn : Func} {p u : Tmp} {ty : TypeId} (h : fn.results = #[.cell p ty, .tmp u]) (tmps : Array Value) (w : World) (g : Nat) (cs : Array Value) (d : TypeDesc)
    (hp : tmps.getD p undef = .pointer (some ⟨g, 0, none⟩)) (hg : Blk w g ty cs) (hu : P.underlying ty = some d) (hd : (match d with | .struct _ | .array _ _ => true | _ => false) = true) (hi : (P.info? ty).map (·.size) = some cs.size) :
    (results fn tmps).run P w = .ok (.tuple #[.agg cs, tmps.getD u undef]) w := by
  have hp' : tmps[p]?.getD undef = .pointer (some ⟨g, 0, none⟩) := by simpa using hp
  simp [results, h, hp', asAddr, run_loadVar_row w g ty ty cs (0, 0) d hg hu hd hi]
theorem results_cell3 {fn : Func} {p u v : Tmp} {ty : TypeId} (h : fn.results = #[.cell p ty, .tmp u, .tmp v]) (tmps : Array Value) (w : World) (g : Nat) (cs : Array Value) (d : TypeDesc)
    (hp : tmps.getD p undef = .pointer (some ⟨g, 0, none⟩)) (hg : Blk w g ty cs) (hu : P.underlying ty = some d) (hd : (match d with | .struct _ | .array _ _ => true | _ => false) = true) (hi : (P.info? ty).map (·.size) = some cs.size) :
    (results fn tmps).run P w = .ok (.tuple #[.agg cs, tmps.getD u undef, tmps.getD v undef]) w := by
  have hp' : tmps[p]?.getD undef = .pointer (some ⟨g, 0, none⟩) := by simpa using hp
  simp [results, h, hp', asAddr, run_loadVar_row w g ty ty cs (0, 0) d hg hu hd hi]
end
theorem OwnB.mono {w : World} {base base' : Nat} {v : Value} {l : List B8} (h : OwnB w base v l) (hb : base' ≤ base) : OwnB w base' v l := by
  refine ⟨h.1, ?_⟩
  rcases h.2 with h' | ⟨g', cap', cur, h', hg, r⟩
  · exact .inl h'
  · exact .inr ⟨g', cap', cur, h', by omega, r⟩
/-- A whole frame stored into block b. -/
abbrev setFr (w : World) (b : Nat) (k e s : Int) (v : Value) : World :=
  (((w.setCell ⟨b, 0, none⟩ (.int .i64 k)).setCell ⟨b, 1, none⟩ (.int .i64 e)).setCell ⟨b, 2, none⟩ (.int .i64 s)).setCell ⟨b, 3, none⟩ v
theorem Blk.setFr {w : World} {b : Nat} {t : TypeId} {a0 a1 a2 a3 : Value} (h : Blk w b t #[a0, a1, a2, a3]) (k e s : Int) (v : Value) : Blk (setFr w b k e s v) b t #[.int .i64 k, .int .i64 e, .int .i64 s, v] :=
  (((h.set_ 0 (.int .i64 k)).set_ 1 (.int .i64 e)).set_ 2 (.int .i64 s)).set_ 3 v
theorem only_setFr (w : World) (b : Nat) (k e s : Int) (v : Value) : w.grownBy (setFr w b k e s v) (some b) :=
  only_setCell (only_setCell (only_setCell (only_setCell (only_refl w (some b)) (.inl rfl) _) (.inl rfl) _) (.inl rfl) _) (.inl rfl) _
theorem below_setFr {a w : World} {B : Nat} (h : Below B a w) (b : Nat) (hb : B ≤ b) (k e s : Int) (v : Value) : Below B a (setFr w b k e s v) :=
  (((h.setCell (p := ⟨b, 0, none⟩) hb _).setCell (p := ⟨b, 1, none⟩) hb _).setCell (p := ⟨b, 2, none⟩) hb _).setCell (p := ⟨b, 3, none⟩) hb _
theorem frame_size : (Try.prog.info? 68).map (·.size) = some 4 := by kernel_rfl

theorem sameFrame_any (k e s : Int) (A A' : Option Addr) (c c' : Nat) (l : List B8) (P Q : Nat → Prop) (w : World) (h1 : Rd w P A (bs l)) (h2 : Rd w Q A' (bs l)) (hl : l.length ≤ 140737488351232) :
    Calls Try.prog 46 #[.agg #[.int .i64 k, .int .i64 e, .int .i64 s, .slice A l.length c], .agg #[.int .i64 k, .int .i64 e, .int .i64 s, .slice A' l.length c']] w
      fun r w' => r = .returned (.bool true) ∧ Below w.heap.size w w' := by
  have b1 : Below w.heap.size w (w.alloc (.cells #[.int .i64 k, .int .i64 e, .int .i64 s, .slice A l.length c] 68)) := (Below.refl _ _).alloc (Nat.le_refl _) _
  have b2 := b1.alloc b1.size (.cells #[.int .i64 k, .int .i64 e, .int .i64 s, .slice A' l.length c'] 68)
  have r1 := (h1.imp (Q := (· < w.heap.size)) fun b hb _ => hb).below b2 fun _ _ hb => hb
  have r2 := (h2.imp (Q := (· < w.heap.size)) fun b hb _ => hb).below b2 fun _ _ hb => hb
  have SB := same_any A A' c c' l l _ _ _ r1 r2 hl hl
  rw [decide_eq_true rfl] at SB
  have HS := hide SB
  have HB := hide b2
  clear SB h1 h2 r1 r2 b1 b2
  go_enter Try.func46, Try.ntmps46
  go_wp2_with (go_at_call 37; refine HS.out.mono ?_; rintro r w1 ⟨rfl, hd⟩)
  go_ret
  exact ⟨rfl, HB.out.trans (hd.below _)⟩

theorem sameFrame_at (k e s : Int) (A A' : Option Addr) (c c' n : Nat) (l : List B8) (P Q : Nat → Prop) (hn : l.length = n) (w : World) (h1 : Rd w P A (bs l)) (h2 : Rd w Q A' (bs l)) (hl : n ≤ 140737488351232) :
    Calls Try.prog 46 #[.agg #[.int .i64 k, .int .i64 e, .int .i64 s, .slice A n c], .agg #[.int .i64 k, .int .i64 e, .int .i64 s, .slice A' n c']] w
      fun r w' => r = .returned (.bool true) ∧ Below w.heap.size w w' := by
  subst hn
  exact sameFrame_any k e s A A' c c' l P Q w h1 h2 hl

theorem lentFrame_any (k e s : Int) (A : Option Addr) (c : Nat) (l : List B8) (P : Nat → Prop) (w : World) (hr : Rd w P A (bs l)) (hl : l.length ≤ 140737488351232) :
    Calls Try.prog 40 #[.agg #[.int .i64 k, .int .i64 e, .int .i64 s, .slice A l.length c]] w
      fun r w' => ∃ g, w.heap.size ≤ g ∧ r = .returned (.agg #[.int .i64 k, .int .i64 e, .int .i64 s, .slice (some ⟨g, 0, none⟩) l.length (l.length + 12)]) ∧ RowB w' g (l.length + 12) (l ++ marks 1 12) ∧ Below w.heap.size w w' := by
  have b1 : Below w.heap.size w (w.alloc (.cells #[.int .i64 k, .int .i64 e, .int .i64 s, .slice A l.length c] 68)) := (Below.refl _ _).alloc (Nat.le_refl _) _
  go_enter Try.func40, Try.ntmps40
  go_wp2_with fail
  have b2 := b1.alloc b1.size (.cells #[.int .i64 0, .int .i64 0, .int .i64 0, .slice none 0 0] 68)
  have B1 : Blk (w.alloc (.cells #[.int .i64 k, .int .i64 e, .int .i64 s, .slice A l.length c] 68)) w.heap.size 68 #[.int .i64 k, .int .i64 e, .int .i64 s, .slice A l.length c] := Blk.new _ _ _
  have B2 := B1.alloc (.cells #[.int .i64 0, .int .i64 0, .int .i64 0, .slice none 0 0] 68)
  have C2 : Blk ((w.alloc (.cells #[.int .i64 k, .int .i64 e, .int .i64 s, .slice A l.length c] 68)).alloc (.cells #[.int .i64 0, .int .i64 0, .int .i64 0, .slice none 0 0] 68)) (w.heap.size + 1) 68 #[.int .i64 0, .int .i64 0, .int .i64 0, .slice none 0 0] := by
    have := Blk.new (w.alloc (.cells #[.int .i64 k, .int .i64 e, .int .i64 s, .slice A l.length c] 68)) 68 #[.int .i64 0, .int .i64 0, .int .i64 0, .slice none 0 0]
    simpa using this
  generalize (w.alloc (.cells #[.int .i64 k, .int .i64 e, .int .i64 s, .slice A l.length c] 68)).alloc (.cells #[.int .i64 0, .int .i64 0, .int .i64 0, .slice none 0 0] 68) = w2 at *
  have r2 := (hr.imp (Q := (· < w.heap.size)) fun b hb _ => hb).below b2 fun _ _ hb => hb
  refine (lent_any A c l _ w2 r2 hl).mono ?_
  rintro r w3 ⟨rfl, hrow, hb3⟩
  have hlt := B2.lt
  have hlt2 := C2.lt
  have B3 := B2.below hb3 hlt
  have C3 := C2.below hb3 hlt2
  have b3 := b2.trans (hb3.mono b2.size)
  generalize w2.heap.size = g at *
  clear B1 B2 C2 b1 b2 hb3 hr r2
  have c0 : w3.cell? ⟨w.heap.size, 0, none⟩ = some (.int .i64 k) := B3.cell 0
  have c1 : w3.cell? ⟨w.heap.size, 1, none⟩ = some (.int .i64 e) := B3.cell 1
  have c2 : w3.cell? ⟨w.heap.size, 2, none⟩ = some (.int .i64 s) := B3.cell 2
  have c3 : w3.cell? ⟨w.heap.size, 3, none⟩ = some (.slice A l.length c) := B3.cell 3
  have f0 := B3.frozen
  have d0 : w3.cell? ⟨w.heap.size + 1, 0, none⟩ = some (.int .i64 0) := C3.cell 0
  have d1 : w3.cell? ⟨w.heap.size + 1, 1, none⟩ = some (.int .i64 0) := C3.cell 1
  have d2 : w3.cell? ⟨w.heap.size + 1, 2, none⟩ = some (.int .i64 0) := C3.cell 2
  have d3 : w3.cell? ⟨w.heap.size + 1, 3, none⟩ = some (.slice none 0 0) := C3.cell 3
  have f1 := C3.frozen
  go_wp2_with fail
  have g4 : w3.grownBy (w3.setCell ⟨w.heap.size, 3, none⟩ (.slice (some ⟨g, 0, none⟩) l.length (l.length + 12))) (some w.heap.size) := only_setCell (only_refl _ _) (.inl rfl) _
  have C4 := C3.grown g4 (by simp)
  have R4 := hrow.only g4 (by simp; omega)
  have b4 := b3.trans (below_of_only g4 (Nat.le_refl _) b3.size)
  clear f0 f1 g4
  generalize w3.setCell ⟨w.heap.size, 3, none⟩ (.slice (some ⟨g, 0, none⟩) l.length (l.length + 12)) = w4 at *
  refine bodyPost_ret (v := .agg #[.int .i64 k, .int .i64 e, .int .i64 s, .slice (some ⟨g, 0, none⟩) l.length (l.length + 12)]) ?_ rfl
    ⟨g, by omega, rfl, R4.only (only_setFr w4 (w.heap.size + 1) k e s _) (by simp; omega), below_setFr b4 (w.heap.size + 1) (by omega) k e s _⟩
  exact results_cell1 rfl _ _ (w.heap.size + 1) _ _ rfl (C4.setFr k e s _) Try.underlying68 rfl frame_size
theorem copyFrame_any (k e s : Int) (A : Option Addr) (c : Nat) (l : List B8) (P : Nat → Prop) (w : World) (hr : Rd w P A (bs l)) (hl : l.length ≤ 140737488351232) :
    Calls Try.prog 47 #[.agg #[.int .i64 k, .int .i64 e, .int .i64 s, .slice A l.length c]] w
      fun r w' => ∃ v, r = .returned (.agg #[.int .i64 k, .int .i64 e, .int .i64 s, v]) ∧ OwnB w' (w.heap.size + 2) v l ∧ Below w.heap.size w w' := by
  have b1 : Below w.heap.size w (w.alloc (.cells #[.int .i64 k, .int .i64 e, .int .i64 s, .slice A l.length c] 68)) := (Below.refl _ _).alloc (Nat.le_refl _) _
  go_enter Try.func47, Try.ntmps47
  go_wp2_with fail
  have b2 := b1.alloc b1.size (.cells #[.int .i64 0, .int .i64 0, .int .i64 0, .slice none 0 0] 68)
  have B1 : Blk (w.alloc (.cells #[.int .i64 k, .int .i64 e, .int .i64 s, .slice A l.length c] 68)) w.heap.size 68 #[.int .i64 k, .int .i64 e, .int .i64 s, .slice A l.length c] := Blk.new _ _ _
  have B2 := B1.alloc (.cells #[.int .i64 0, .int .i64 0, .int .i64 0, .slice none 0 0] 68)
  have C2 : Blk ((w.alloc (.cells #[.int .i64 k, .int .i64 e, .int .i64 s, .slice A l.length c] 68)).alloc (.cells #[.int .i64 0, .int .i64 0, .int .i64 0, .slice none 0 0] 68)) (w.heap.size + 1) 68 #[.int .i64 0, .int .i64 0, .int .i64 0, .slice none 0 0] := by
    have := Blk.new (w.alloc (.cells #[.int .i64 k, .int .i64 e, .int .i64 s, .slice A l.length c] 68)) 68 #[.int .i64 0, .int .i64 0, .int .i64 0, .slice none 0 0]
    simpa using this
  generalize (w.alloc (.cells #[.int .i64 k, .int .i64 e, .int .i64 s, .slice A l.length c] 68)).alloc (.cells #[.int .i64 0, .int .i64 0, .int .i64 0, .slice none 0 0] 68) = w2 at *
  have r2 := (hr.imp (Q := (· < w.heap.size)) fun b hb _ => hb).below b2 fun _ _ hb => hb
  have z2 : w.heap.size + 2 ≤ w2.heap.size := C2.lt
  refine (copy_any A c l _ w2 r2 hl).mono ?_
  rintro r w3 ⟨⟨v, rfl, hown⟩, hb3⟩
  have hlt := B2.lt
  have hlt2 := C2.lt
  have B3 := B2.below hb3 hlt
  have C3 := C2.below hb3 hlt2
  have b3 := b2.trans (hb3.mono b2.size)
  have own3 : OwnB w3 (w.heap.size + 2) v l := by
    refine ⟨hown.1, ?_⟩
    rcases hown.2 with h' | ⟨g', cap', cur, h', hg, r⟩
    · exact .inl h'
    · exact .inr ⟨g', cap', cur, h', by omega, r⟩
  clear B1 B2 C2 b1 b2 hb3 hr r2 hown
  have c0 : w3.cell? ⟨w.heap.size, 0, none⟩ = some (.int .i64 k) := B3.cell 0
  have c1 : w3.cell? ⟨w.heap.size, 1, none⟩ = some (.int .i64 e) := B3.cell 1
  have c2 : w3.cell? ⟨w.heap.size, 2, none⟩ = some (.int .i64 s) := B3.cell 2
  have c3 : w3.cell? ⟨w.heap.size, 3, none⟩ = some (.slice A l.length c) := B3.cell 3
  have f0 := B3.frozen
  have d0 : w3.cell? ⟨w.heap.size + 1, 0, none⟩ = some (.int .i64 0) := C3.cell 0
  have d1 : w3.cell? ⟨w.heap.size + 1, 1, none⟩ = some (.int .i64 0) := C3.cell 1
  have d2 : w3.cell? ⟨w.heap.size + 1, 2, none⟩ = some (.int .i64 0) := C3.cell 2
  have d3 : w3.cell? ⟨w.heap.size + 1, 3, none⟩ = some (.slice none 0 0) := C3.cell 3
  have f1 := C3.frozen
  obtain ⟨A3, n3, rfl, _⟩ := own3.form
  go_wp2_with fail
  have g4 : w3.grownBy (w3.setCell ⟨w.heap.size, 3, none⟩ (.slice A3 l.length n3)) (some w.heap.size) := only_setCell (only_refl _ _) (.inl rfl) _
  have ne : ∀ x, x ≤ w.heap.size + 1 → (Value.slice A3 l.length n3).ownBlock ≠ some x := fun x hx e => by have := (own3.lt x e).1; omega
  have C4 := C3.grown g4 (by simp)
  have R4 := own3.kept g4 (.inr (ne _ (Nat.le_succ _)))
  have b4 := b3.trans (below_of_only g4 (Nat.le_refl _) b3.size)
  clear f0 f1 g4
  generalize w3.setCell ⟨w.heap.size, 3, none⟩ (.slice A3 l.length n3) = w4 at *
  refine bodyPost_ret (v := .agg #[.int .i64 k, .int .i64 e, .int .i64 s, .slice A3 l.length n3]) ?_ rfl
    ⟨_, rfl, R4.kept (only_setFr w4 (w.heap.size + 1) k e s _) (.inr (ne _ (Nat.le_refl _))), below_setFr b4 (w.heap.size + 1) (by omega) k e s _⟩
  exact results_cell1 rfl _ _ (w.heap.size + 1) _ _ rfl (C4.setFr k e s _) Try.underlying68 rfl frame_size

theorem keptFrame_any (k e s : Int) (AO A : Option Addr) (cO c : Nat) (l : List B8) (P Q : Nat → Prop) (w : World) (hO : Rd w P AO (bs (l ++ marks 1 12))) (hr : Rd w Q A (bs l)) (hl : l.length ≤ 140737488351232) (hc : l.length + 12 ≤ cO) :
    Calls Try.prog 43 #[.agg #[.int .i64 k, .int .i64 e, .int .i64 s, .slice AO l.length cO], .agg #[.int .i64 k, .int .i64 e, .int .i64 s, .slice A l.length c]] w
      fun r w' => r = .returned (.bool true) ∧ Below w.heap.size w w' := by
  have b1 : Below w.heap.size w (w.alloc (.cells #[.int .i64 k, .int .i64 e, .int .i64 s, .slice AO l.length cO] 68)) := (Below.refl _ _).alloc (Nat.le_refl _) _
  have b2 := b1.alloc b1.size (.cells #[.int .i64 k, .int .i64 e, .int .i64 s, .slice A l.length c] 68)
  have B2 : Blk ((w.alloc (.cells #[.int .i64 k, .int .i64 e, .int .i64 s, .slice AO l.length cO] 68)).alloc (.cells #[.int .i64 k, .int .i64 e, .int .i64 s, .slice A l.length c] 68)) w.heap.size 68 #[.int .i64 k, .int .i64 e, .int .i64 s, .slice AO l.length cO] := (Blk.new w _ _).alloc _
  have C2 : Blk ((w.alloc (.cells #[.int .i64 k, .int .i64 e, .int .i64 s, .slice AO l.length cO] 68)).alloc (.cells #[.int .i64 k, .int .i64 e, .int .i64 s, .slice A l.length c] 68)) (w.heap.size + 1) 68 #[.int .i64 k, .int .i64 e, .int .i64 s, .slice A l.length c] := by
    have := Blk.new (w.alloc (.cells #[.int .i64 k, .int .i64 e, .int .i64 s, .slice AO l.length cO] 68)) 68 #[.int .i64 k, .int .i64 e, .int .i64 s, .slice A l.length c]
    simpa using this
  have r1 := (hO.imp (Q := (· < w.heap.size)) fun b hb _ => hb).below b2 fun _ _ hb => hb
  have r2 := (hr.imp (Q := (· < w.heap.size)) fun b hb _ => hb).below b2 fun _ _ hb => hb
  have r0 : Rd ((w.alloc (.cells #[.int .i64 k, .int .i64 e, .int .i64 s, .slice AO l.length cO] 68)).alloc (.cells #[.int .i64 k, .int .i64 e, .int .i64 s, .slice A l.length c] 68)) (· < w.heap.size) AO (bs l) := by
    have := r1.take l.length
    rwa [bs_append, List.take_append_of_le_length (by simp), List.take_of_length_le (by simp)] at this
  go_enter Try.func43, Try.ntmps43
  go_wp2_with fail
  generalize (w.alloc (.cells #[.int .i64 k, .int .i64 e, .int .i64 s, .slice AO l.length cO] 68)).alloc (.cells #[.int .i64 k, .int .i64 e, .int .i64 s, .slice A l.length c] 68) = w2 at *
  refine (sameFrame_any k e s AO A cO c l _ _ w2 r0 r2 hl).mono ?_
  rintro r w3 ⟨rfl, hb3⟩
  have B3 := B2.below hb3 B2.lt
  have C3 := C2.below hb3 C2.lt
  have r3 := r1.below hb3 (fun b hb h => hb)
  have r4 := r2.below hb3 (fun b hb h => hb)
  have b3 := b2.trans (hb3.mono b2.size)
  clear r0 r1 r2 B2 C2 b1 b2 hO hr hb3
  have c3 : w3.cell? ⟨w.heap.size, 3, none⟩ = some (.slice AO l.length cO) := B3.cell 3
  have d3 : w3.cell? ⟨w.heap.size + 1, 3, none⟩ = some (.slice A l.length c) := C3.cell 3
  go_wp2_with fail
  refine (kept_any AO A cO c l _ _ w3 r3 r4 hl hc).mono ?_
  rintro r w4 ⟨rfl, hd⟩
  go_wp2
  go_ret
  exact ⟨rfl, b3.trans (hd.below _)⟩
end Go.Proofs.Ytdkcjmpikmnedaa
