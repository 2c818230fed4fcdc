/- Heads held against each other. -/
import Derived.Test.YtdkcjmpikmnedaaGreatHeadGet
import Derived.Laws.StructEq
namespace Go.Proofs.YtdkcjmpikmnedaaGreat
open Go.RowKit

theorem part_geo (v s g u j nu pg rt sn : Int) (w : World) : (part 54 (headCells v s g u j nu pg rt sn) 0).run Tryz.prog w = .ok (.agg #[.int .i64 v, .int .i64 s, .int .i64 g, .int .i64 u, .int .i64 j]) w := by kernel_rfl
theorem part_nu (v s g u j nu pg rt sn : Int) (w : World) : (part 3 (headCells v s g u j nu pg rt sn) 5).run Tryz.prog w = .ok (.int .i64 nu) w := by kernel_rfl
theorem part_pg (v s g u j nu pg rt sn : Int) (w : World) : (part 3 (headCells v s g u j nu pg rt sn) 6).run Tryz.prog w = .ok (.int .i64 pg) w := by kernel_rfl
theorem part_rt (v s g u j nu pg rt sn : Int) (w : World) : (part 3 (headCells v s g u j nu pg rt sn) 7).run Tryz.prog w = .ok (.int .i64 rt) w := by kernel_rfl
theorem part_sn (v s g u j nu pg rt sn : Int) (w : World) : (part 3 (headCells v s g u j nu pg rt sn) 8).run Tryz.prog w = .ok (.int .i64 sn) w := by kernel_rfl
theorem gpart_v (v s g u j : Int) (w : World) : (part 3 #[.int .i64 v, .int .i64 s, .int .i64 g, .int .i64 u, .int .i64 j] 0).run Tryz.prog w = .ok (.int .i64 v) w := by kernel_rfl
theorem gpart_s (v s g u j : Int) (w : World) : (part 3 #[.int .i64 v, .int .i64 s, .int .i64 g, .int .i64 u, .int .i64 j] 1).run Tryz.prog w = .ok (.int .i64 s) w := by kernel_rfl
theorem gpart_g (v s g u j : Int) (w : World) : (part 3 #[.int .i64 v, .int .i64 s, .int .i64 g, .int .i64 u, .int .i64 j] 2).run Tryz.prog w = .ok (.int .i64 g) w := by kernel_rfl
theorem gpart_u (v s g u j : Int) (w : World) : (part 3 #[.int .i64 v, .int .i64 s, .int .i64 g, .int .i64 u, .int .i64 j] 3).run Tryz.prog w = .ok (.int .i64 u) w := by kernel_rfl
theorem gpart_j (v s g u j : Int) (w : World) : (part 3 #[.int .i64 v, .int .i64 s, .int .i64 g, .int .i64 u, .int .i64 j] 4).run Tryz.prog w = .ok (.int .i64 j) w := by kernel_rfl
theorem int_equal (d : Nat) (a b : Int) (w : World) : (Op.equalIn (d + 1) 3 (.int .i64 a) (.int .i64 b)).run Tryz.prog w = .ok (decide (a = b)) w := by
  rw [run_equalIn_int w d 3 .i64 .i64 a b Tryz.underlying3]
  rfl
theorem geo_equal (v s g u j v' s' g' u' j' : Int) (w : World) :
    (Op.equalIn 9999 54 (.agg #[.int .i64 v, .int .i64 s, .int .i64 g, .int .i64 u, .int .i64 j]) (.agg #[.int .i64 v', .int .i64 s', .int .i64 g', .int .i64 u', .int .i64 j'])).run Tryz.prog w =
      .ok (decide (v = v' ∧ s = s' ∧ g = g' ∧ u = u' ∧ j = j')) w := by
  have ht : Tryz.prog.underlying 54 = some (.struct (Tryz.prog.fieldsOf 54)) := by kernel_rfl
  have hp : Tryz.prog.stoodInHeld 54 = false := by kernel_rfl
  rw [run_equalIn_struct w 9998 54 _ _ ht hp]
  simp only [Program.fieldsOf, Tryz.underlying54, Op.eqFields]
  by_cases h0 : v = v' <;> by_cases h1 : s = s' <;> by_cases h2 : g = g' <;> by_cases h3 : u = u' <;> by_cases h4 : j = j' <;>
    simp [gpart_v, gpart_s, gpart_g, gpart_u, gpart_j, int_equal 9997, h0, h1, h2, h3, h4]
theorem head_equal (v s g u j nu pg rt sn v' s' g' u' j' nu' pg' rt' sn' : Int) (w : World) :
    (Op.equalIn 10000 56 (.agg (headCells v s g u j nu pg rt sn)) (.agg (headCells v' s' g' u' j' nu' pg' rt' sn'))).run Tryz.prog w =
      .ok (decide ((v = v' ∧ s = s' ∧ g = g' ∧ u = u' ∧ j = j') ∧ nu = nu' ∧ pg = pg' ∧ rt = rt' ∧ sn = sn')) w := by
  have ht : Tryz.prog.underlying 56 = some (.struct (Tryz.prog.fieldsOf 56)) := by kernel_rfl
  have hp : Tryz.prog.stoodInHeld 56 = false := by kernel_rfl
  rw [run_equalIn_struct w 9999 56 _ _ ht hp]
  simp only [Program.fieldsOf, Tryz.underlying56, Op.eqFields]
  by_cases h0 : (v = v' ∧ s = s' ∧ g = g' ∧ u = u' ∧ j = j') <;> by_cases h1 : nu = nu' <;> by_cases h2 : pg = pg' <;> by_cases h3 : rt = rt' <;> by_cases h4 : sn = sn' <;>
    simp [part_geo, part_nu, part_pg, part_rt, part_sn, geo_equal, int_equal 9998, h0, h1, h2, h3, h4]
end Go.Proofs.YtdkcjmpikmnedaaGreat
