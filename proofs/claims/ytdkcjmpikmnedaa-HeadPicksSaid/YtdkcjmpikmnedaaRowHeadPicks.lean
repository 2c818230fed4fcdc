/- Proved: for every input 'peatbanklaw12.HeadPicks' returns true, and each argument reads behind the call as it read before; no condition of mine. -/
import Derived.Test.YtdkcjmpikmnedaaRows
import Derived.Test.YtdkcjmpikmnedaaOpenB
import Derived.Test.YtdkcjmpikmnedaaOpenH
import Derived.Test.YtdkcjmpikmnedaaLaw12p
import Derived.Test.YtdkcjmpikmnedaaFacts
import Derived.WalkKit
import Derived.ProofKit
import Derived.OpenShut
import Derived.ShutString
import Derived.ChangeOld
import Derived.Below
import Derived.SizedLaws
namespace Go.Proofs.Ytdkcjmpikmnedaa.headPicks
open Go.ChangeShapes Go.WideShapes Go.ChangeAt Go.RowKit
set_option linter.unusedVariables false

/-! ### The row -/
set_option maxRecDepth 100000 in
theorem lifted (os : Os) (started : os.Started) (H : Type) (enc : TypeId × Value → H) :
    ReturnsInHanded {} Try.checked os 10 .any (Rows.headPicksSpec.pre6 enc Try.prog Try.f10 Rows.headPicksRow.domain false) (Rows.headPicksSpec.post enc Try.prog Try.f10 false true false false) := by
  refine returnsInHanded_of_change_sized (C := Try.checked) own_knob started (by kernel_rfl) Try.func10
    (ChangeSpec.witness6 (enc := enc) (C := Try.checked) false ⟨#[], #[.agg #[.int .i64 0, .int .i64 0, .int .i64 0, .int .i64 0, .int .i64 0, .int .i64 0, .int .i64 0, .int .i64 0, .int .i64 0], .agg #[.int .i64 0, .int .i64 0, .int .i64 0, .int .i64 0, .int .i64 0, .int .i64 0, .int .i64 0, .int .i64 0, .int .i64 0]], []⟩ 8 (by kernel_rfl) (by kernel_rfl) (by kernel_rfl) (by kernel_rfl)) ?_
  intro W base args ds gs before hval0 hW hcnd hsz0 _
  have hval : ∀ (j : Nat) t v, Try.f10.params[j]? = some t → args[j]? = some v → Value.okWide Try.prog W .any base t v := hval0
  have hW' := hW
  obtain ⟨p, q, hA0, hV, rfl, hfz, hnd⟩ := hW
  have hA : DataW.TrodAll enc Try.prog W 0 (fun _ => true) true Try.f10.params.toList args.toList ds p := hA0
  have hsz := hsz0
  rw [Try.params10] at hA hval hsz
  obtain ⟨v0, vs0, d0, ds0, p0, q0, hargs, rfl, rfl, h0, r_0⟩ := trodAll_cons hA
  obtain ⟨v1, vs1, d1, ds1, p1, q1, rfl, rfl, rfl, h1, r_1⟩ := trodAll_cons r_0
  obtain ⟨rfl, rfl, rfl⟩ := trodAll_nil r_1
  obtain rfl : args = #[v0, v1] := by cases args; simp_all
  obtain ⟨rfl, rfl⟩ := trodVars_none hV
  have k_0 := h0
  have lt_0 : ∀ x ∈ p0, x.block < W.heap.size := by obtain ⟨m, hm⟩ := k_0; exact DataW.trod_lt m _ _ _ hm
  have k_1 := h1
  have lt_1 : ∀ x ∈ p1, x.block < W.heap.size := by obtain ⟨m, hm⟩ := k_1; exact DataW.trod_lt m _ _ _ hm
  obtain ⟨h_0, rfl⟩ := open_head (hval 0 55 v0 rfl rfl) h0
  obtain ⟨h_1, rfl⟩ := open_head (hval 1 55 v1 rfl rfl) h1
  clear hA0 hval0 hsz0
  refine (headPicks_any h_0 h_1 W).mono fun e W' ⟨he, bel⟩ => ?_
  subst he
  exact ⟨_, rfl, _, _, _, [], _, [], hW', trodAll_mk1 (shut_bool Try.underlying4 _), (trodAll_cons_mk (Below.trod laid_out (by kernel_rfl) (of_decide_eq_true (by kernel_rfl)) k_0 bel lt_0) (trodAll_cons_mk (Below.trod laid_out (by kernel_rfl) (of_decide_eq_true (by kernel_rfl)) k_1 bel lt_1) trodAll_mk0)), rfl, bel.frame _, fun h => by cases h⟩

theorem fact_wf : (Rows.headPicksRow.wf (OpenSpec.ofChange Rows.headPicksSpec)) = true := by kernel_rfl
theorem fact_readable : (Try.f10.params.all (Try.prog.readableRec ·)) = true := by kernel_rfl
theorem fact_tie : (namedTie Try.prog Rows.headPicksRow.named Rows.headPicksSpec.vars) = true := by kernel_rfl
theorem fact_stops : (Rows.headPicksRow.stops == []) = true := by kernel_rfl
theorem fact_knobs : (Rows.headPicksRow.knobs == []) = true := by kernel_rfl
theorem fact_inPlace : (Rows.headPicksRow.inPlace == Try.prog.inPlace 10) = true := by kernel_rfl
theorem fact_unfollowed : (Rows.headPicksRow.unfollowed == Try.prog.unfollowed 10) = true := by kernel_rfl
theorem fact_recurses : (Rows.headPicksRow.recurses == Try.prog.recurses 10) = true := by kernel_rfl
theorem fact_named : (Rows.headPicksRow.named == Try.prog.varsNamed 10) = true := by kernel_rfl
theorem fact_maps : (Rows.headPicksRow.maps == (Try.f10.params.toList ++ Rows.headPicksSpec.plain.varTypes Try.prog).any (Try.prog.mapsRec ·)) = true := by kernel_rfl
theorem fact_ifaces : (Rows.headPicksRow.ifaces == (Try.f10.params.toList ++ Rows.headPicksSpec.plain.varTypes Try.prog).any (Try.prog.ifacesRec ·)) = true := by kernel_rfl
theorem fact_mapsOut : (Rows.headPicksRow.mapsOut == Try.prog.mapsAmong Try.f10.resultTypes.toList) = true := by kernel_rfl
theorem fact_loops : (Rows.headPicksRow.loops == (Try.f10.params.toList ++ Rows.headPicksSpec.plain.varTypes Try.prog).any (Try.prog.loopsFrom ·)) = true := by kernel_rfl
theorem fact_wideKeys : (Rows.headPicksRow.wideKeys == (Try.f10.params.toList ++ Rows.headPicksSpec.plain.varTypes Try.prog ++ Try.f10.resultTypes.toList).any (Try.prog.wideKeysFrom ·)) = true := by kernel_rfl
theorem fact_vars : (Rows.headPicksSpec.vars.all (Try.prog.varReadable ·)) = true := by kernel_rfl
theorem fact_results : (Try.f10.resultTypes.all (fun t => Try.prog.readableRec t && decide (t < Try.prog.types.size))) = true := by kernel_rfl
theorem fact_ifacesOut : (Rows.headPicksRow.ifacesOut == Try.f10.resultTypes.toList.any (Try.prog.ifacesRec ·)) = true := by kernel_rfl
theorem fact_loopsOut : (Rows.headPicksRow.loopsOut == Try.f10.resultTypes.toList.any (Try.prog.loopsFrom ·)) = true := by kernel_rfl
theorem fact_short : (Rows.headPicksRow.shortTexts.isNone) = true := by kernel_rfl
theorem fact_pinned : (Rows.headPicksRow.pinned == Rows.headPicksRow.pinnedBy) = true := by kernel_rfl
theorem fact_veiled : (Rows.headPicksRow.veiled == (Try.f10.params.toList ++ Rows.headPicksSpec.plain.varTypes Try.prog ++ Try.f10.resultTypes.toList).any (Try.prog.veiledRec ·)) = true := by kernel_rfl
theorem fact_fits : (Rows.headPicksRow.veiledFits Try.prog Try.f10.params.toList (Try.f10.params.toList ++ Rows.headPicksSpec.plain.varTypes Try.prog ++ Try.f10.resultTypes.toList)) = true := by kernel_rfl
theorem closed : joinedFacts Try.prog 10 Try.f10 Rows.headPicksSpec Rows.headPicksRow = true := by
  unfold joinedFacts
  simp only [Bool.and_eq_true]
  exact ⟨⟨⟨⟨⟨⟨⟨⟨⟨⟨⟨⟨⟨⟨⟨⟨⟨⟨⟨⟨⟨⟨⟨⟨⟨⟨⟨⟨⟨⟨⟨fact_wf, fact_laid⟩, fact_mapsRowed⟩, fact_readable⟩, fact_tie⟩, fact_stops⟩, fact_pstops⟩, fact_knobs⟩, fact_pknobs⟩, fact_inPlace⟩, fact_unfollowed⟩, fact_recurses⟩, fact_named⟩, fact_maps⟩, fact_ifaces⟩, fact_mapsOut⟩, fact_loops⟩, fact_wideKeys⟩, fact_vars⟩, fact_results⟩, fact_ifacesOut⟩, fact_loopsOut⟩, fact_plainKeys⟩, fact_short⟩, fact_heard⟩, fact_mayEnter⟩, fact_lifted⟩, fact_make⟩, (by kernel_rfl)⟩, fact_pinned⟩, fact_veiled⟩, fact_fits⟩

theorem over : Rows.headPicksRow.holds Try.pinned (OpenSpec.ofChange Rows.headPicksSpec) :=
  OpenClaim.holds_of_wide 10 Try.f10 rfl rfl rfl rfl rfl rfl rfl ⟨rfl, rfl, rfl, rfl, rfl⟩ rfl rfl rfl rfl rfl (by kernel_rfl) Try.func10 closed
    (of_decide_eq_true (by kernel_rfl)) (by unfold Func.isWrapper; first | (rw [if_pos (by decide +kernel)]; kernel_rfl) | (rw [if_neg (by decide +kernel)]; exact ⟨rfl, rfl⟩))
    (fun os started H enc _ => lifted os started H enc)

/-- The statement. -/
theorem proved : Rows.HeadPicksSaid :=
  over
#print axioms proved
end Go.Proofs.Ytdkcjmpikmnedaa.headPicks
