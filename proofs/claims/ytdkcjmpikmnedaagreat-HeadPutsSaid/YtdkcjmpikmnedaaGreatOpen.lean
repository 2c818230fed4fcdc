/- What an argument reads as, brought into this seat's words: words as bit vectors, rows of bytes as lists of them. -/
import Derived.Test.YtdkcjmpikmnedaaGreatMem
import Derived.WalkKit
import Derived.ProofKit
import Derived.OpenShut
import Derived.ShutString
import Derived.ChangeOld
import Derived.Below
namespace Go.Proofs.YtdkcjmpikmnedaaGreat
open Go.ChangeShapes Go.WideShapes Go.ChangeAt Go.RowKit

theorem own_knob : ownKnob Tryz.prog.godebug = none := by kernel_rfl
theorem laid_out : laidOutB Tryz.prog = true := by kernel_rfl

/-- A slice of integers that came in: nil, or a row of 'cap' cells. -/
def IsRow (k : IntKind) (w : World) (a : Option Addr) (len cap : Nat) (zs : List Int) : Prop :=
  (a = none ∧ len = 0 ∧ cap = 0 ∧ zs = []) ∨
  ∃ x, a = some x ∧ len ≤ cap ∧ cap ≤ maxLen ∧ zs.length = cap ∧ (∀ i, i < zs.length → w.cell? (x.add i) = some (.int k (zs.getD i 0))) ∧ ∀ n ∈ zs, (Lit.int k n).wf = true

theorem open_u32 {a : Int} (h : (Lit.int .u32 a).wf = true) : ∃ x : B32, a = (x.toNat : Int) := by
  have := bounds_u32 h
  exact ⟨BitVec.ofInt 32 a, by rw [BitVec.toNat_ofInt]; omega⟩
theorem open_u8 {a : Int} (h : (Lit.int .u8 a).wf = true) : ∃ x : B8, a = (x.toNat : Int) := by
  have := bounds_u8 h
  exact ⟨BitVec.ofInt 8 a, by rw [BitVec.toNat_ofInt]; omega⟩
theorem open_bytes {w : World} {a : Option Addr} {len cap : Nat} {zs : List Int} (h : IsRow .u8 w a len cap zs) :
    ∃ l : List B8, l.length = len ∧ len ≤ cap ∧ (a = none → cap = 0) ∧ Rd w (fun _ => True) a (bs l) := by
  rcases h with ⟨rfl, rfl, rfl, rfl⟩ | ⟨x, rfl, hl, _, hz, hc, hw⟩
  · exact ⟨[], rfl, Nat.le_refl _, fun _ => rfl, Rd.nil⟩
  · refine ⟨(zs.take len).map fun z => BitVec.ofInt 8 z, by simp; omega, hl, (by intro h; cases h), fun h0 => ?_⟩
    have hlen : 0 < len := by simp at h0; omega
    obtain ⟨b, off, spot⟩ := x
    have h00 := hc 0 (by omega)
    have hspot : spot = none := by simpa [Addr.add] using World.cell?_spot h00
    subst hspot
    refine ⟨b, off, rfl, trivial, fun j hj => ?_⟩
    have hj' : j < len := by simp at hj; omega
    have hcj := hc j (by omega)
    rw [Addr.add_lit] at hcj
    rw [hcj, bs_get]
    have hjz : j < zs.length := by omega
    have e : zs.getD j 0 = zs[j] := by simp [hjz]
    have hb := bounds_u8 (hw zs[j] (List.getElem_mem hjz))
    rw [e]
    simp only [List.getElem_map, List.getElem_take]
    rw [BitVec.toNat_ofInt]
    congr 2
    omega
end Go.Proofs.YtdkcjmpikmnedaaGreat
