/- The walk through peatbankkit's OverBytes. -/
import Derived.Test.YtdkcjmpikmnedaaDoorKit
namespace Go.Proofs.YtdkcjmpikmnedaaDoor
open Go.RowKit
set_option linter.unusedSimpArgs false

set_option maxHeartbeats 400000 in
/-- What was lent is written over: only its own block turns. -/
theorem over_any (g n : Nat) (l : List B8) (w : World) (hrow : RowB w g (n + 12) l) (hl : l.length = n + 12) (hn : n ≤ 140737488351232) :
    Calls Tryd.prog 17 #[.slice (some ⟨g, 0, none⟩) n (n + 12)] w fun e w' => e = .returned (.tuple #[]) ∧ w.grownBy w' (some g) := by
  go_enter Tryd.func17, Tryd.ntmps17
  go_wp2
  go_loopw [3] (fun i wr => ∃ (k : Nat) (m : List B8), k ≤ n + 12 ∧ i = .int .i64 k ∧ m.length = n + 12 ∧ RowB wr g (n + 12) m ∧ w.grownBy wr (some g)) (fun i _ => n + 12 - (intOf i).toNat)
  case atStart => exact ⟨0, l, by omega, rfl, hl, hrow, only_refl _ _⟩
  case round =>
    clear hrow hl
    obtain ⟨k, m, hk, rfl, hm, R, gr⟩ := hrel
    have HM := hide hm
    by_cases hlt : k < n + 12
    · have c0 := R.cell k (by omega)
      have f0 := R.frozen k
      have hki : (k : Int) < (n : Int) + 12 := by omega
      have hk2 : k < m.length := by omega
      generalize m[k]'(by omega) = x at *
      clear hm
      go_wp2_with (go_at_call 18; refine (markByte_any _ _ _).mono ?_; rintro e w' ⟨rfl, rfl⟩)
      go_roundw
      case rel =>
        obtain ⟨R2, g2⟩ := R.stored k (mB 2 k)
        exact ⟨k + 1, m.set k (mB 2 k), by omega, by go_num, by rw [List.length_set]; exact HM.out, R2, only_trans gr g2⟩
      case measure => simp [intOf]; omega
    · have hki : ¬ (k : Int) < (n : Int) + 12 := by omega
      go_wp2
      first | go_end0 | (simp only [Exit.inBlock, Exit.then]; refine bodyPost_ret (results_none rfl _ _ _) rfl ?_) | refine bodyPost_ret (results_none rfl _ _ _) rfl ?_
      exact ⟨rfl, gr⟩
end Go.Proofs.YtdkcjmpikmnedaaDoor
