/- Arguments opened: a row of bytes, a frame by value, with the form's bound on their bytes. -/
import Derived.Test.YtdkcjmpikmnedaaGreatOpen
import Derived.SizedLaws
import Derived.Lib.SmallJoins
namespace Go.Proofs.YtdkcjmpikmnedaaGreat
open Go.ChangeShapes Go.WideShapes Go.ChangeAt Go.RowKit

/-- What the cells of a slice of bytes say. -/
theorem bytes_of_trod {H : Type} {enc : TypeId × Value → H} {W : World} {fuel : Nat} {v : Value} {x : DataW H × List MemPlace} (hf : DataW.trod enc Tryz.prog W 0 (fun _ => true) true fuel 30 [v] = some x) :
    ∃ (a : Option Addr) (l : List B8) (c : Nat), v = .slice a l.length c ∧ l.length ≤ c ∧ (a = none → c = 0) ∧ Rd W (fun _ => True) a (bs l) ∧ (x.1 = .nil ∧ l = [] ∨ ∃ es sp, x.1 = .slice es sp ∧ l.length ≤ es.length + sp.length) := by
  rcases open_ints Tryz.underlying30 Tryz.underlying5 (by kernel_rfl) hf with ⟨hcs, hx⟩ | ⟨y, len, c, zs, hcs, _, hl, hm, hz, hx, hcell, hwz⟩
  · simp at hcs
    subst hcs
    exact ⟨none, [], 0, rfl, Nat.le_refl _, fun _ => rfl, Rd.nil, .inl ⟨by rw [hx], rfl⟩⟩
  · simp at hcs
    subst hcs
    have hzc : zs.length = c := by simpa using hz
    obtain ⟨l, hll, hlc, hA, hr⟩ := open_bytes (w := W) (a := some y) (len := len) (cap := c) (zs := zs) (.inr ⟨y, rfl, hl, hm, hzc, hcell, hwz⟩)
    refine ⟨some y, l, c, by rw [hll], by omega, hA, hr, .inr ⟨_, _, by rw [hx], ?_⟩⟩
    simp [ChangeShapes.lits]
    omega
/-- What a row of bytes reads as. -/
def RowData {H : Type} (d : DataW H) (l : List B8) : Prop := d = .nil ∧ l = [] ∨ ∃ es sp, d = .slice es sp ∧ l.length ≤ es.length + sp.length
theorem bytes_sized {H : Type} {ts : List TypeId} {ds : List (DataW H)} (hsz : (DataW.weightsEach Tryz.prog ts ds).all (· ≤ reachBytes) = true) {j : Nat} {d : DataW H} {l : List B8} (ht : ts[j]? = some 30) (hd : ds[j]? = some d)
    (h : RowData d l) : l.length ≤ 140737488351232 := by
  rcases h with ⟨_, rfl⟩ | ⟨es, sp, rfl, hl⟩
  · exact Nat.zero_le _
  · have := sized_slice hsz ht hd Tryz.underlying30
    rw [show Tryz.prog.bytesOf 5 = 1 by kernel_rfl, Nat.mul_one] at this
    exact Nat.le_trans hl this
set_option maxRecDepth 100000 in
theorem open_row {H : Type} {enc : TypeId × Value → H} {W : World} {r : Reach} {b0 : Nat} {v : Value} {d : DataW H} {p : List MemPlace} (hv : Value.okWide Tryz.prog W r b0 30 v) (h : DataW.Trod enc Tryz.prog W 0 (fun _ => true) true 30 v d p) :
    ∃ (a : Option Addr) (l : List B8) (c : Nat), v = .slice a l.length c ∧ l.length ≤ c ∧ (a = none → c = 0) ∧ Rd W (fun _ => True) a (bs l) ∧ RowData d l := by
  obtain ⟨a0, len0, cap0, rfl⟩ := okWide_slice Tryz.underlying30 hv
  obtain ⟨fuel, hf⟩ := h
  exact bytes_of_trod hf
theorem frame_cells : Tryz.prog.cellsOf 111 = 4 := by kernel_rfl
/-- What a frame reads as. -/
def FrameData {H : Type} (d : DataW H) (l : List B8) : Prop := ∃ d0 d1 d2 d3, d = .agg [d0, d1, d2, d3] ∧ RowData d3 l
set_option maxRecDepth 100000 in
theorem open_frame {H : Type} {enc : TypeId × Value → H} {W : World} {r : Reach} {b0 : Nat} {v : Value} {d : DataW H} {p : List MemPlace} (hv : Value.okWide Tryz.prog W r b0 111 v) (h : DataW.Trod enc Tryz.prog W 0 (fun _ => true) true 111 v d p) :
    ∃ (k e s : Int) (a : Option Addr) (l : List B8) (c : Nat), v = .agg #[.int .i64 k, .int .i64 e, .int .i64 s, .slice a l.length c] ∧ l.length ≤ c ∧ (a = none → c = 0) ∧ Rd W (fun _ => True) a (bs l) ∧ FrameData d l := by
  obtain ⟨c0, c1, c2, c3, y0, y1, y2, y3, m, rfl, rfl, rfl, h0, h1, h2, h3⟩ := Joins.open_agg4 Tryz.underlying111 (by kernel_rfl) frame_cells hv h
  obtain ⟨k, e0, hy0, _⟩ := DataW.trod_int Tryz.underlying3 h0
  obtain ⟨e, e1, hy1, _⟩ := DataW.trod_int Tryz.underlying3 h1
  obtain ⟨s, e2, hy2, _⟩ := DataW.trod_int Tryz.underlying3 h2
  simp only [List.cons.injEq, and_true] at e0 e1 e2
  subst e0 e1 e2
  obtain ⟨a, l, c, rfl, hlc, hA, hr, hx⟩ := bytes_of_trod h3
  exact ⟨k, e, s, a, l, c, rfl, hlc, hA, hr, _, _, _, _, rfl, hx⟩
theorem frame_sized {H : Type} {ts : List TypeId} {ds : List (DataW H)} (hsz : (DataW.weightsEach Tryz.prog ts ds).all (· ≤ reachBytes) = true) {j : Nat} {d : DataW H} {l : List B8} (ht : ts[j]? = some 111) (hd : ds[j]? = some d)
    (h : FrameData d l) : l.length ≤ 140737488351232 := by
  obtain ⟨d0, d1, d2, d3, rfl, ⟨_, rfl⟩ | ⟨es, sp, rfl, hl⟩⟩ := h
  · exact Nat.zero_le _
  · have hw := List.all_eq_true.1 hsz _ (DataW.weights_mem_each ht hd ((es.length + sp.length) * Tryz.prog.bytesOf 5) (by simp [DataW.weights, DataW.weightsEach, Tryz.underlying111, Tryz.underlying30]))
    rw [show Tryz.prog.bytesOf 5 = 1 by kernel_rfl, Nat.mul_one] at hw
    exact Nat.le_trans hl (of_decide_eq_true hw)
end Go.Proofs.YtdkcjmpikmnedaaGreat
