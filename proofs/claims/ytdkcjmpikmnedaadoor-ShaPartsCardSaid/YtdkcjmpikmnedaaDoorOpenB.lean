/- Arguments opened: a row of bytes, a frame by value, with the form's bound on their bytes. -/
import Derived.Test.YtdkcjmpikmnedaaDoorOpen
import Derived.SizedLaws
import Derived.Lib.SmallJoins
namespace Go.Proofs.YtdkcjmpikmnedaaDoor
open Go.ChangeShapes Go.WideShapes Go.ChangeAt Go.RowKit

/-- What the cells of a slice of bytes say. -/
theorem bytes_of_trod {H : Type} {enc : TypeId × Value → H} {W : World} {fuel : Nat} {v : Value} {x : DataW H × List MemPlace} (hf : DataW.trod enc Tryd.prog W 0 (fun _ => true) true fuel 22 [v] = some x) :
    ∃ (a : Option Addr) (l : List B8) (c : Nat), v = .slice a l.length c ∧ l.length ≤ c ∧ (a = none → c = 0) ∧ Rd W (fun _ => True) a (bs l) ∧ (x.1 = .nil ∧ l = [] ∨ ∃ es sp, x.1 = .slice es sp ∧ l.length ≤ es.length + sp.length) := by
  rcases open_ints Tryd.underlying22 Tryd.underlying5 (by kernel_rfl) hf with ⟨hcs, hx⟩ | ⟨y, len, c, zs, hcs, _, hl, hm, hz, hx, hcell, hwz⟩
  · simp at hcs
    subst hcs
    exact ⟨none, [], 0, rfl, Nat.le_refl _, fun _ => rfl, Rd.nil, .inl ⟨by rw [hx], rfl⟩⟩
  · simp at hcs
    subst hcs
    have hzc : zs.length = c := by simpa using hz
    obtain ⟨l, hll, hlc, hA, hr⟩ := open_bytes (w := W) (a := some y) (len := len) (cap := c) (zs := zs) (.inr ⟨y, rfl, hl, hm, hzc, hcell, hwz⟩)
    refine ⟨some y, l, c, by rw [hll], by omega, hA, hr, .inr ⟨_, _, by rw [hx], ?_⟩⟩
    simp [ChangeShapes.lits]
    omega
/-- What a row of bytes reads as. -/
def RowData {H : Type} (d : DataW H) (l : List B8) : Prop := d = .nil ∧ l = [] ∨ ∃ es sp, d = .slice es sp ∧ l.length ≤ es.length + sp.length
theorem bytes_sized {H : Type} {ts : List TypeId} {ds : List (DataW H)} (hsz : (DataW.weightsEach Tryd.prog ts ds).all (· ≤ reachBytes) = true) {j : Nat} {d : DataW H} {l : List B8} (ht : ts[j]? = some 22) (hd : ds[j]? = some d)
    (h : RowData d l) : l.length ≤ 140737488351232 := by
  rcases h with ⟨_, rfl⟩ | ⟨es, sp, rfl, hl⟩
  · exact Nat.zero_le _
  · have := sized_slice hsz ht hd Tryd.underlying22
    rw [show Tryd.prog.bytesOf 5 = 1 by kernel_rfl, Nat.mul_one] at this
    exact Nat.le_trans hl this
set_option maxRecDepth 100000 in
theorem open_row {H : Type} {enc : TypeId × Value → H} {W : World} {r : Reach} {b0 : Nat} {v : Value} {d : DataW H} {p : List MemPlace} (hv : Value.okWide Tryd.prog W r b0 22 v) (h : DataW.Trod enc Tryd.prog W 0 (fun _ => true) true 22 v d p) :
    ∃ (a : Option Addr) (l : List B8) (c : Nat), v = .slice a l.length c ∧ l.length ≤ c ∧ (a = none → c = 0) ∧ Rd W (fun _ => True) a (bs l) ∧ RowData d l := by
  obtain ⟨a0, len0, cap0, rfl⟩ := okWide_slice Tryd.underlying22 hv
  obtain ⟨fuel, hf⟩ := h
  exact bytes_of_trod hf
end Go.Proofs.YtdkcjmpikmnedaaDoor
