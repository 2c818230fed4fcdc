/- The closed facts of the program that each row asks, one theorem each: no condition. -/
import Derived.Test.YtdkcjmpikmnedaaGreatRows
import Derived.WalkKit
import Derived.ProofKit
namespace Go.Proofs.YtdkcjmpikmnedaaGreat
theorem fact_laid : (laidOutB Tryz.prog) = true := by kernel_rfl
theorem fact_mapsRowed : (mapsRowed Tryz.prog) = true := by kernel_rfl
theorem fact_pstops : (Tryz.prog.stops == []) = true := by kernel_rfl
theorem fact_pknobs : (Tryz.prog.stopKnobs == []) = true := by kernel_rfl
theorem fact_plainKeys : (Rows.headPutsRow.plainKeys == Tryz.prog.plainKeys) = true := by kernel_rfl
theorem fact_heard : (Tryz.prog.stopsHeard) = true := by kernel_rfl
theorem fact_mayEnter : (Tryz.prog.mayEnter) = true := by kernel_rfl
theorem fact_lifted : (Rows.headPutsRow.lifted == Tryz.prog.liftsFinal) = true := by kernel_rfl
theorem fact_make : (Tryz.prog.make == some Rows.headPutsRow.make) = true := by kernel_rfl
end Go.Proofs.YtdkcjmpikmnedaaGreat
