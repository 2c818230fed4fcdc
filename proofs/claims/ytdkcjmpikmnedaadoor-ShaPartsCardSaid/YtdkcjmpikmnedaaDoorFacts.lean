/- The closed facts of the program that each row asks, one theorem each: no condition. -/
import Derived.Test.YtdkcjmpikmnedaaDoorRows
import Derived.WalkKit
import Derived.ProofKit
namespace Go.Proofs.YtdkcjmpikmnedaaDoor
theorem fact_laid : (laidOutB Tryd.prog) = true := by kernel_rfl
theorem fact_mapsRowed : (mapsRowed Tryd.prog) = true := by kernel_rfl
theorem fact_pstops : (Tryd.prog.stops == []) = true := by kernel_rfl
theorem fact_pknobs : (Tryd.prog.stopKnobs == []) = true := by kernel_rfl
theorem fact_plainKeys : (Rows.shaSumsRow.plainKeys == Tryd.prog.plainKeys) = true := by kernel_rfl
theorem fact_heard : (Tryd.prog.stopsHeard) = true := by kernel_rfl
theorem fact_mayEnter : (Tryd.prog.mayEnter) = true := by kernel_rfl
theorem fact_lifted : (Rows.shaSumsRow.lifted == Tryd.prog.liftsFinal) = true := by kernel_rfl
theorem fact_make : (Tryd.prog.make == some Rows.shaSumsRow.make) = true := by kernel_rfl
end Go.Proofs.YtdkcjmpikmnedaaDoor
