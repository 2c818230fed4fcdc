/- The walks through peatbankkit's functions on frames. -/
import Derived.Test.YtdkcjmpikmnedaaGreatFramePut
namespace Go.Proofs.YtdkcjmpikmnedaaGreat
open Go.RowKit

theorem RowB.far {w : World} {g cap : Nat} {l : List B8} (h : RowB w g cap l) {p : Addr} (hp : g ≠ p.block) (u : Value) : RowB (w.setCell p u) g cap l :=
  h.only (only_setCell (only_refl w (some p.block)) (.inl rfl) u) (by simpa using hp)
theorem Rd.far {w : World} {P : Nat → Prop} {A : Option Addr} {xs : List Value} (h : Rd w P A xs) {p : Addr} (hp : ∀ b, P b → b ≠ p.block) (u : Value) : Rd (w.setCell p u) P A xs :=
  h.only (only_setCell (only_refl w (some p.block)) (.inl rfl) u) (fun b hb => by simpa using hp b hb)

section
variable {P : Program}
theorem results_cell1 {fn : Func} {p : Tmp} {ty : TypeId} (h : fn.results = #[.cell p ty]) (tmps : Array Value) (w : World) (g : Nat) (cs : Array Value) (d : TypeDesc)
    (hp : tmps.getD p undef = .pointer (some ⟨g, 0, none⟩)) (hg : Blk w g ty cs) (hu : P.underlying ty = some d) (hd : (match d with | .struct _ | .array _ _ => true | _ => false) = true) (hi : (P.info? ty).map (·.size) = some cs.size) :
    (results fn tmps).run P w = .ok (.agg cs) w := results_cell_row h tmps w g ty cs (0, 0) d hp hg hu hd hi
theorem results_cell2 {fn : Func} {p u : Tmp} {ty : TypeId} (h : fn.results = #[.cell p ty, .tmp u]) (tmps : Array Value) (w : World) (g : Nat) (cs : Array Value) (d : TypeDesc)
    (hp : tmps.getD p undef = .pointer (some ⟨g, 0, none⟩)) (hg : Blk w g ty cs) (hu : P.underlying ty = some d) (hd : (match d with | .struct _ | .array _ _ => true | _ => false) = true) (hi : (P.info? ty).map (·.size) = some cs.size) :
    (results fn tmps).run P w = .ok (.tuple #[.agg cs, tmps.getD u undef]) w := by
  have hp' : tmps[p]?.getD undef = .pointer (some ⟨g, 0, none⟩) := by simpa using hp
  simp [results, h, hp', asAddr, run_loadVar_row w g ty ty cs (0, 0) d hg hu hd hi]
theorem results_cell3 {fn : Func} {p u v : Tmp} {ty : TypeId} (h : fn.results = #[.cell p ty, .tmp u, .tmp v]) (tmps : Array Value) (w : World) (g : Nat) (cs : Array Value) (d : TypeDesc)
    (hp : tmps.getD p undef = .pointer (some ⟨g, 0, none⟩)) (hg : Blk w g ty cs) (hu : P.underlying ty = some d) (hd : (match d with | .struct _ | .array _ _ => true | _ => false) = true) (hi : (P.info? ty).map (·.size) = some cs.size) :
    (results fn tmps).run P w = .ok (.tuple #[.agg cs, tmps.getD u undef, tmps.getD v undef]) w := by
  have hp' : tmps[p]?.getD undef = .pointer (some ⟨g, 0, none⟩) := by simpa using hp
  simp [results, h, hp', asAddr, run_loadVar_row w g ty ty cs (0, 0) d hg hu hd hi]
end
theorem OwnB.mono {w : World} {base base' : Nat} {v : Value} {l : List B8} (h : OwnB w base v l) (hb : base' ≤ base) : OwnB w base' v l := by
  refine ⟨h.1, ?_⟩
  rcases h.2 with h' | ⟨g', cap', cur, h', hg, r⟩
  · exact .inl h'
  · exact .inr ⟨g', cap', cur, h', by omega, r⟩
/-- A whole frame stored into block b. -/
abbrev setFr (w : World) (b : Nat) (k e s : Int) (v : Value) : World :=
  (((w.setCell ⟨b, 0, none⟩ (.int .i64 k)).setCell ⟨b, 1, none⟩ (.int .i64 e)).setCell ⟨b, 2, none⟩ (.int .i64 s)).setCell ⟨b, 3, none⟩ v
theorem Blk.setFr {w : World} {b : Nat} {t : TypeId} {a0 a1 a2 a3 : Value} (h : Blk w b t #[a0, a1, a2, a3]) (k e s : Int) (v : Value) : Blk (setFr w b k e s v) b t #[.int .i64 k, .int .i64 e, .int .i64 s, v] :=
  (((h.set_ 0 (.int .i64 k)).set_ 1 (.int .i64 e)).set_ 2 (.int .i64 s)).set_ 3 v
theorem only_setFr (w : World) (b : Nat) (k e s : Int) (v : Value) : w.grownBy (setFr w b k e s v) (some b) :=
  only_setCell (only_setCell (only_setCell (only_setCell (only_refl w (some b)) (.inl rfl) _) (.inl rfl) _) (.inl rfl) _) (.inl rfl) _
theorem below_setFr {a w : World} {B : Nat} (h : Below B a w) (b : Nat) (hb : B ≤ b) (k e s : Int) (v : Value) : Below B a (setFr w b k e s v) :=
  (((h.setCell (p := ⟨b, 0, none⟩) hb _).setCell (p := ⟨b, 1, none⟩) hb _).setCell (p := ⟨b, 2, none⟩) hb _).setCell (p := ⟨b, 3, none⟩) hb _
theorem frame_size : (Tryz.prog.info? 111).map (·.size) = some 4 := by kernel_rfl

theorem sameFrame_any (k e s : Int) (A A' : Option Addr) (c c' : Nat) (l : List B8) (P Q : Nat → Prop) (w : World) (h1 : Rd w P A (bs l)) (h2 : Rd w Q A' (bs l)) (hl : l.length ≤ 140737488351232) :
    Calls Tryz.prog 126 #[.agg #[.int .i64 k, .int .i64 e, .int .i64 s, .slice A l.length c], .agg #[.int .i64 k, .int .i64 e, .int .i64 s, .slice A' l.length c']] w
      fun r w' => r = .returned (.bool true) ∧ Below w.heap.size w w' := by
  have b1 : Below w.heap.size w (w.alloc (.cells #[.int .i64 k, .int .i64 e, .int .i64 s, .slice A l.length c] 111)) := (Below.refl _ _).alloc (Nat.le_refl _) _
  have b2 := b1.alloc b1.size (.cells #[.int .i64 k, .int .i64 e, .int .i64 s, .slice A' l.length c'] 111)
  have r1 := (h1.imp (Q := (· < w.heap.size)) fun b hb _ => hb).below b2 fun _ _ hb => hb
  have r2 := (h2.imp (Q := (· < w.heap.size)) fun b hb _ => hb).below b2 fun _ _ hb => hb
  have SB := same_any A A' c c' l l _ _ _ r1 r2 hl hl
  rw [decide_eq_true rfl] at SB
  have HS := hide SB
  have HB := hide b2
  clear SB h1 h2 r1 r2 b1 b2
  go_enter Tryz.func126, Tryz.ntmps126
  go_wp2_with (go_at_call 17; refine HS.out.mono ?_; rintro r w1 ⟨rfl, hd⟩)
  go_ret
  exact ⟨rfl, HB.out.trans (hd.below _)⟩

theorem sameFrame_at (k e s : Int) (A A' : Option Addr) (c c' n : Nat) (l : List B8) (P Q : Nat → Prop) (hn : l.length = n) (w : World) (h1 : Rd w P A (bs l)) (h2 : Rd w Q A' (bs l)) (hl : n ≤ 140737488351232) :
    Calls Tryz.prog 126 #[.agg #[.int .i64 k, .int .i64 e, .int .i64 s, .slice A n c], .agg #[.int .i64 k, .int .i64 e, .int .i64 s, .slice A' n c']] w
      fun r w' => r = .returned (.bool true) ∧ Below w.heap.size w w' := by
  subst hn
  exact sameFrame_any k e s A A' c c' l P Q w h1 h2 hl

end Go.Proofs.YtdkcjmpikmnedaaGreat
