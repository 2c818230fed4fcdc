/- The closed facts of the program that each row asks, one theorem each: no condition. -/
import Derived.Test.YtdkcjmpikmnedaaRows
import Derived.WalkKit
import Derived.ProofKit
namespace Go.Proofs.Ytdkcjmpikmnedaa
theorem fact_laid : (laidOutB Try.prog) = true := by kernel_rfl
theorem fact_mapsRowed : (mapsRowed Try.prog) = true := by kernel_rfl
theorem fact_pstops : (Try.prog.stops == []) = true := by kernel_rfl
theorem fact_pknobs : (Try.prog.stopKnobs == []) = true := by kernel_rfl
theorem fact_plainKeys : (Rows.crcSumsRow.plainKeys == Try.prog.plainKeys) = true := by kernel_rfl
theorem fact_heard : (Try.prog.stopsHeard) = true := by kernel_rfl
theorem fact_mayEnter : (Try.prog.mayEnter) = true := by kernel_rfl
theorem fact_lifted : (Rows.crcSumsRow.lifted == Try.prog.liftsFinal) = true := by kernel_rfl
theorem fact_make : (Try.prog.make == some Rows.crcSumsRow.make) = true := by kernel_rfl
end Go.Proofs.Ytdkcjmpikmnedaa
