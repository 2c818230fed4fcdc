/- A list of rows of bytes that came in. -/
import Derived.Test.YtdkcjmpikmnedaaDoorOpenB
import Derived.Deep.Slices
namespace Go.Proofs.YtdkcjmpikmnedaaDoor
open Go.ChangeShapes Go.WideShapes Go.ChangeAt Go.RowKit Go.Deep

/-- The slice at A has these rows, all in blocks of w. -/
def RowsAt (w : World) (A : Option Addr) (Ls : List (List B8)) : Prop :=
  ∀ i, i < Ls.length → ∃ (b off : Nat) (a : Option Addr) (c : Nat), A = some ⟨b, off, none⟩ ∧ b < w.heap.size ∧ w.cell? ⟨b, off + i, none⟩ = some (.slice a (Ls.getD i []).length c) ∧ (Ls.getD i []).length ≤ c ∧ Rd w (fun x => x < w.heap.size) a (bs (Ls.getD i []))
theorem rows_cells : Tryd.prog.cellsOf 22 = 1 := by kernel_rfl
set_option maxRecDepth 100000 in
theorem open_rows {H : Type} {enc : TypeId × Value → H} {W : World} {r : Reach} {b0 : Nat} {v : Value} {d : DataW H} {p : List MemPlace} (hv : Value.okWide Tryd.prog W r b0 53 v) (h : DataW.Trod enc Tryd.prog W 0 (fun _ => true) true 53 v d p) :
    ∃ (a : Option Addr) (Ls : List (List B8)) (c : Nat), v = .slice a Ls.length c ∧ Ls.length ≤ c ∧ RowsAt W a Ls := by
  obtain ⟨a0, len0, cap0, rfl⟩ := okWide_slice Tryd.underlying53 hv
  obtain ⟨fuel, hf⟩ := h
  have hf' : DataW.trod enc Tryd.prog W 0 (fun _ => true) true fuel 53 [.slice a0 len0 cap0] = some (d, p) := hf
  rcases open_slice1 Tryd.underlying53 rows_cells hf' with ⟨hcs, _⟩ | ⟨a, len, cap, m, n, V, D, Pl, hcs, _, hl, _, hm, _, hx⟩
  · simp only [List.cons.injEq, Value.slice.injEq, and_true] at hcs
    obtain ⟨rfl, rfl, rfl⟩ := hcs
    exact ⟨none, [], 0, rfl, Nat.le_refl _, fun i hi => by simp at hi⟩
  · simp only [List.cons.injEq, Value.slice.injEq, and_true] at hcs
    obtain ⟨rfl, rfl, rfl⟩ := hcs
    have hmm : m = cap0 := by simpa using hm
    have each : ∀ i, i < len0 → ∃ q : List B8 × Option Addr × Nat, V i = .slice q.2.1 q.1.length q.2.2 ∧ q.1.length ≤ q.2.2 ∧ Rd W (fun _ => True) q.2.1 (bs q.1) := fun i hi => by
      obtain ⟨_, h2⟩ := hx i (by omega)
      obtain ⟨a1, l1, c1, hv1, hl1, _, hr1, _⟩ := bytes_of_trod h2
      exact ⟨⟨l1, a1, c1⟩, hv1, hl1, hr1⟩
    obtain ⟨q, hq⟩ := choose_lt (α := List B8 × Option Addr × Nat) (p := fun i q => V i = .slice q.2.1 q.1.length q.2.2 ∧ q.1.length ≤ q.2.2 ∧ Rd W (fun _ => True) q.2.1 (bs q.1)) each
    refine ⟨some a, (List.range len0).map fun i => (q i).1, cap0, by simp, by simpa using hl, fun i hi => ?_⟩
    have hi' : i < len0 := by simpa using hi
    obtain ⟨hV, hlc, hr⟩ := hq i hi'
    have hc := (hx i (by omega)).1
    obtain ⟨b, off, spot⟩ := a
    have hspot : spot = none := by
      have := World.cell?_spot (hx 0 (by omega)).1
      simpa [Addr.add] using this
    subst hspot
    have e : ((List.range len0).map fun i => (q i).1).getD i [] = (q i).1 := by simp [hi']
    rw [e]
    have hc2 : W.cell? ⟨b, off + i, none⟩ = some (.slice (q i).2.1 (q i).1.length (q i).2.2) := by rw [← hV, ← hc, Addr.add_lit]
    exact ⟨b, off, (q i).2.1, (q i).2.2, rfl, World.block_lt_of_cell? W _ hc2, hc2, hlc, hr.imp fun x hx _ => hx⟩
end Go.Proofs.YtdkcjmpikmnedaaDoor
