/- What a call leaves that writes to some old blocks. (The same words stand in XShaWrite for the Door seat.) -/
import Derived.Test.YtdkcjmpikmnedaaGreatMem
namespace Go.Proofs.YtdkcjmpikmnedaaGreat
open Go.RowKit

/-! ### What a call leaves: only blocks of which K holds, and what is new, may have turned. -/
structure Chg (K : Nat → Prop) (w w' : World) : Prop where
  os : w'.os = w.os
  tape : w'.tape = w.tape
  output : w'.output = w.output
  size : w.heap.size ≤ w'.heap.size
  block : ∀ b, b < w.heap.size → ¬ K b → w'.heap[b]? = w.heap[b]?
section
variable {w w' w'' : World} {K : Nat → Prop}
theorem Chg.refl (K : Nat → Prop) (w : World) : Chg K w w := ⟨rfl, rfl, rfl, Nat.le_refl _, fun _ _ _ => rfl⟩
theorem Chg.trans (h : Chg K w w') (k : Chg K w' w'') : Chg K w w'' :=
  ⟨k.os.trans h.os, k.tape.trans h.tape, k.output.trans h.output, Nat.le_trans h.size k.size, fun b hb hn => (k.block b (Nat.lt_of_lt_of_le hb h.size) hn).trans (h.block b hb hn)⟩
/-- What turned in the second part may be new since the first. -/
theorem Chg.trans' {K' : Nat → Prop} (h : Chg K w w') (k : Chg K' w' w'') (hK : ∀ b, b < w.heap.size → K' b → K b) : Chg K w w'' :=
  ⟨k.os.trans h.os, k.tape.trans h.tape, k.output.trans h.output, Nat.le_trans h.size k.size, fun b hb hn => (k.block b (Nat.lt_of_lt_of_le hb h.size) fun e => hn (hK b hb e)).trans (h.block b hb hn)⟩
theorem Chg.imp {K' : Nat → Prop} (h : Chg K w w') (hK : ∀ b, b < w.heap.size → K b → K' b) : Chg K' w w' :=
  ⟨h.os, h.tape, h.output, h.size, fun b hb hn => h.block b hb fun e => hn (hK b hb e)⟩
theorem Chg.drewN (h : Chg K w w') (n : Nat) : Chg K w (w'.drewN n) := ⟨h.os, h.tape, h.output, h.size, h.block⟩
theorem Chg.drew (h : Chg K w w') : Chg K w w'.drew := ⟨h.os, h.tape, h.output, h.size, h.block⟩
theorem Chg.of_grown {row : Option Nat} (h : w.grownBy w' row) (hK : ∀ b, b < w.heap.size → some b = row → K b) : Chg K w w' :=
  ⟨h.os, h.tape, h.output, h.size, fun b hb hn => h.block b hb fun e => hn (hK b hb e)⟩
theorem Chg.of_below {B : Nat} (h : Below B w w') (hK : ∀ b, b < w.heap.size → B ≤ b → K b) : Chg K w w' :=
  ⟨h.os, h.tape, h.output, h.size, fun b hb hn => h.block b (by
    rcases Nat.lt_or_ge b B with hlt | hge
    · exact hlt
    · exact absurd (hK b hb hge) hn)⟩
theorem Chg.below {B : Nat} (h : Chg K w w') (hB : B ≤ w.heap.size) (hK : ∀ b, b < B → ¬ K b) : Below B w w' := ⟨h.os, h.tape, h.output, h.size, fun b hb => h.block b (by omega) (hK b hb)⟩
theorem Chg.alloc (h : Chg K w w') (o : Obj) : Chg K w (w'.alloc o) :=
  h.trans (Chg.of_below ((Below.refl w'.heap.size w').alloc (Nat.le_refl _) o) fun b hb hge => by omega)
theorem Chg.setCell (h : Chg K w w') {p : Addr} (hp : p.block < w.heap.size → K p.block) (u : Value) : Chg K w (w'.setCell p u) :=
  h.trans' (Chg.of_grown (K := fun b => b = p.block) (only_setCell (only_refl w' (some p.block)) (.inl rfl) u) fun b _ e => by injection e) fun b hb e => by subst e; exact hp hb
theorem Chg.blk {g : Nat} {t : TypeId} {cs : Array Value} (h : Chg K w w') (hb : Blk w g t cs) (hg : ¬ K g) : Blk w' g t cs := (h.block g hb.lt hg).trans hb
theorem Chg.rd {P : Nat → Prop} {A : Option Addr} {xs : List Value} (h : Chg K w w') (hr : Rd w P A xs) (hP : ∀ b, P b → ¬ K b) : Rd w' P A xs := hr.keep fun b hb hPb => h.block b hb (hP b hPb)
theorem Chg.own {base : Nat} {v : Value} {l : List B8} (h : Chg K w w') (ho : OwnB w base v l) (hv : ∀ g, v.ownBlock = some g → ¬ K g) : OwnB w' base v l := by
  refine ⟨ho.1, ?_⟩
  rcases ho.2 with h' | ⟨g, cap, cur, rfl, hg, hh, r⟩
  · exact .inl h'
  · exact .inr ⟨g, cap, cur, rfl, hg, (h.block g (Array.getElem?_eq_some_iff.1 hh).1 (hv g rfl)).trans hh, r⟩
end

end Go.Proofs.YtdkcjmpikmnedaaGreat
