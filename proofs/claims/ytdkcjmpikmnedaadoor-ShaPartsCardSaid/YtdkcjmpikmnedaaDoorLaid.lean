/- What the two variables hold when a call begins, out of the rows' premise. -/
import Derived.Test.YtdkcjmpikmnedaaDoorShaAll
import Derived.Test.YtdkcjmpikmnedaaDoorOpenB
import Derived.Test.YtdkcjmpikmnedaaDoorRows
import Derived.ProofKit
import Derived.LaidMore
import Derived.OpenShut
import Derived.Stop.Joined
namespace Go.Proofs.YtdkcjmpikmnedaaDoor
open Go.ChangeShapes Go.WideShapes Go.ChangeAt Go.RowKit
set_option maxRecDepth 100000

abbrev laid2 : List (String × DataW Unit) := [("peatbank/sha.rounds", Rows.laid_peatbank_sha_rounds), ("peatbank/sha.first", Rows.laid_peatbank_sha_first)]
theorem gRounds : Tryd.prog.globalNamed "peatbank/sha.rounds" = some 1 := by kernel_rfl
theorem gFirst : Tryd.prog.globalNamed "peatbank/sha.first" = some 0 := by kernel_rfl
theorem tRounds : (Tryd.prog.globals[1]?).map (·.type) = some 64 := by kernel_rfl
theorem tFirst : (Tryd.prog.globals[0]?).map (·.type) = some 63 := by kernel_rfl
theorem u32_cells : Tryd.prog.cellsOf 38 = 1 := by kernel_rfl
/-- The door's own heap meets the condition. -/
theorem door_met (os : Os) (args : Array Value) : laidMetH Tryd.prog laid2 ((World.doorLaid Tryd.prog 19 os).forCall (fun _ _ => 0) ⟨#[], args, []⟩).memory :=
  laidMetH_of_parts3 (fuel := 8) (laidMet_of_run' 8 (by kernel_rfl) (by kernel_rfl)) (by kernel_rfl) (by kernel_rfl)
/-- The cells of an array of words, out of its datum. -/
theorem words_of_trod {W : World} {t : TypeId} {n fuel : Nat} {cs : Array Value} {x : DataW Unit × List MemPlace} {sp : Nat → Bool} {held : Bool} {enc : TypeId × Value → Unit} (l : List B32) (hn : l.length = n) (ht : Tryd.prog.underlying t = some (.array n 38)) (hc : Tryd.prog.cellsOf t = n)
    (h : DataW.trod enc Tryd.prog W 0 sp held fuel t cs.toList = some x) (hx : x.1 = .agg (l.map fun c => .lit (.int .u32 (c.toNat : Int)))) : cs = (w32 l).toArray := by
  obtain ⟨xs, m, rfl, rfl, hlen, hxn, hel⟩ := DataW.trod_array ht h
  simp only [DataW.agg.injEq] at hx
  rw [hc] at hlen
  apply Array.ext'
  rw [List.toList_toArray]
  refine List.ext_getElem (by rw [hlen, w32_length, hn]) fun i h1 h2 => ?_
  have hi : i < n := by omega
  have h3 := hel i hi
  rw [u32_cells, Nat.mul_one] at h3
  have e1 : (cs.toList.drop i).take 1 = [cs.toList[i]] := by rw [List.drop_eq_getElem_cons h1]; rfl
  rw [e1, List.getElem?_eq_getElem (by omega)] at h3
  obtain ⟨k, e2, e3, _⟩ := DataW.trod_int Tryd.underlying38 h3
  simp only [List.cons.injEq, and_true] at e2
  rw [e2]
  have e4 : (xs.map (·.1))[i]? = (l.map fun c => DataW.lit (.int .u32 (c.toNat : Int)))[i]? := by rw [hx]
  rw [List.getElem?_map, List.getElem?_map, List.getElem?_eq_getElem (by omega), List.getElem?_eq_getElem (by omega), Option.map_some, Option.map_some, e3] at e4
  simp only [Option.some.injEq, DataW.lit.injEq, Lit.int.injEq, true_and] at e4
  simp [w32, e4]
theorem row_of_var {P : Program} {w : World} {n : String} {g : Nat} {cs : Array Value} (hg : P.globalNamed n = some g) (h : w.var? P n = some cs) : RowAt w g cs := by
  simp only [World.var?, hg, Option.bind_some] at h
  split at h
  · rename_i c t fr hh
    obtain rfl := Option.some.inj h
    exact ⟨t, fr, hh⟩
  · cases h
/-- What the condition gives the walks. -/
theorem of_laid {W : World} (h : laidMetH Tryd.prog laid2 W) : Laid W := by
  rw [MakeChecks.laidMetH_plain _ _ _ (by kernel_rfl)] at h
  obtain ⟨ps, ⟨g0, t0, cs0, f0, p0, q0, hg0, ht0, hv0, hd0, ⟨g1, t1, cs1, f1, p1, q1, hg1, ht1, hv1, hd1, _, _⟩, _⟩, _, _⟩ := h
  obtain rfl := Option.some.inj (gRounds.symm.trans hg0)
  obtain rfl := Option.some.inj (gFirst.symm.trans hg1)
  obtain rfl := Option.some.inj (tRounds.symm.trans ht0)
  obtain rfl := Option.some.inj (tFirst.symm.trans ht1)
  have e0 := words_of_trod rks rfl Tryd.underlying64 (by kernel_rfl) hd0 (by kernel_rfl)
  have e1 := words_of_trod wFirst.ws rfl Tryd.underlying63 (by kernel_rfl) hd1 (by kernel_rfl)
  subst e0 e1
  exact ⟨row_of_var gFirst hv1, row_of_var gRounds hv0⟩
end Go.Proofs.YtdkcjmpikmnedaaDoor
