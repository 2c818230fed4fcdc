/- Proved: for every input 'peatbanklaw12.HeadGets' returns true, and each argument reads behind the call as it read before; no condition of mine. -/
import Derived.Test.YtdkcjmpikmnedaaRows
import Derived.Test.YtdkcjmpikmnedaaOpenB
import Derived.Test.YtdkcjmpikmnedaaOpenH
import Derived.Test.YtdkcjmpikmnedaaLaw12g
import Derived.Test.YtdkcjmpikmnedaaFacts
import Derived.WalkKit
import Derived.ProofKit
import Derived.OpenShut
import Derived.ShutString
import Derived.ChangeOld
import Derived.Below
import Derived.SizedLaws
namespace Go.Proofs.Ytdkcjmpikmnedaa.headGets
open Go.ChangeShapes Go.WideShapes Go.ChangeAt Go.RowKit
set_option linter.unusedVariables false

/-! ### The row -/
set_option maxRecDepth 100000 in
theorem lifted (os : Os) (started : os.Started) (H : Type) (enc : TypeId × Value → H) :
    ReturnsInHanded {} Try.checked os 19 .any (Rows.headGetsSpec.pre6 enc Try.prog Try.f19 Rows.headGetsRow.domain false) (Rows.headGetsSpec.post enc Try.prog Try.f19 false true false false) := by
  refine returnsInHanded_of_change_sized (C := Try.checked) own_knob started (by kernel_rfl) Try.func19
    (ChangeSpec.witness6 (enc := enc) (C := Try.checked) false ⟨#[], #[.slice none 0 0, .slice none 0 0], []⟩ 8 (by kernel_rfl) (by kernel_rfl) (by kernel_rfl) (by kernel_rfl)) ?_
  intro W base args ds gs before hval0 hW hcnd hsz0 _
  have hval : ∀ (j : Nat) t v, Try.f19.params[j]? = some t → args[j]? = some v → Value.okWide Try.prog W .any base t v := hval0
  have hW' := hW
  obtain ⟨p, q, hA0, hV, rfl, hfz, hnd⟩ := hW
  have hA : DataW.TrodAll enc Try.prog W 0 (fun _ => true) true Try.f19.params.toList args.toList ds p := hA0
  have hsz := hsz0
  rw [Try.params19] at hA hval hsz
  obtain ⟨v0, vs0, d0, ds0, p0, q0, hargs, rfl, rfl, h0, r_0⟩ := trodAll_cons hA
  obtain ⟨v1, vs1, d1, ds1, p1, q1, rfl, rfl, rfl, h1, r_1⟩ := trodAll_cons r_0
  obtain ⟨rfl, rfl, rfl⟩ := trodAll_nil r_1
  obtain rfl : args = #[v0, v1] := by cases args; simp_all
  obtain ⟨rfl, rfl⟩ := trodVars_none hV
  have k_0 := h0
  have lt_0 : ∀ x ∈ p0, x.block < W.heap.size := by obtain ⟨m, hm⟩ := k_0; exact DataW.trod_lt m _ _ _ hm
  have k_1 := h1
  have lt_1 : ∀ x ∈ p1, x.block < W.heap.size := by obtain ⟨m, hm⟩ := k_1; exact DataW.trod_lt m _ _ _ hm
  obtain ⟨A0, l0, c0, rfl, hl0, hA0, r0, x0⟩ := open_row (hval 0 23 v0 rfl rfl) h0
  have z0 := bytes_sized hsz (j := 0) rfl rfl x0
  obtain ⟨A1, l1, c1, rfl, hl1, hA1, r1, x1⟩ := open_row (hval 1 23 v1 rfl rfl) h1
  have z1 := bytes_sized hsz (j := 1) rfl rfl x1
  clear hA0 hval0 hsz0
  refine (headGets_any A0 A1 c0 c1 l0 l1 _ _ W r0 r1 z0 z1 hl0 hl1).mono fun e W' ⟨he, bel⟩ => ?_
  subst he
  exact ⟨_, rfl, _, _, _, [], _, [], hW', trodAll_mk1 (shut_bool Try.underlying4 _), (trodAll_cons_mk (Below.trod laid_out (by kernel_rfl) (of_decide_eq_true (by kernel_rfl)) k_0 bel lt_0) (trodAll_cons_mk (Below.trod laid_out (by kernel_rfl) (of_decide_eq_true (by kernel_rfl)) k_1 bel lt_1) trodAll_mk0)), rfl, bel.frame _, fun h => by cases h⟩

theorem fact_wf : (Rows.headGetsRow.wf (OpenSpec.ofChange Rows.headGetsSpec)) = true := by kernel_rfl
theorem fact_readable : (Try.f19.params.all (Try.prog.readableRec ·)) = true := by kernel_rfl
theorem fact_tie : (namedTie Try.prog Rows.headGetsRow.named Rows.headGetsSpec.vars) = true := by kernel_rfl
theorem fact_stops : (Rows.headGetsRow.stops == []) = true := by kernel_rfl
theorem fact_knobs : (Rows.headGetsRow.knobs == []) = true := by kernel_rfl
theorem fact_inPlace : (Rows.headGetsRow.inPlace == Try.prog.inPlace 19) = true := by kernel_rfl
theorem fact_unfollowed : (Rows.headGetsRow.unfollowed == Try.prog.unfollowed 19) = true := by kernel_rfl
theorem fact_recurses : (Rows.headGetsRow.recurses == Try.prog.recurses 19) = true := by kernel_rfl
theorem fact_named : (Rows.headGetsRow.named == Try.prog.varsNamed 19) = true := by kernel_rfl
theorem fact_maps : (Rows.headGetsRow.maps == (Try.f19.params.toList ++ Rows.headGetsSpec.plain.varTypes Try.prog).any (Try.prog.mapsRec ·)) = true := by kernel_rfl
theorem fact_ifaces : (Rows.headGetsRow.ifaces == (Try.f19.params.toList ++ Rows.headGetsSpec.plain.varTypes Try.prog).any (Try.prog.ifacesRec ·)) = true := by kernel_rfl
theorem fact_mapsOut : (Rows.headGetsRow.mapsOut == Try.prog.mapsAmong Try.f19.resultTypes.toList) = true := by kernel_rfl
theorem fact_loops : (Rows.headGetsRow.loops == (Try.f19.params.toList ++ Rows.headGetsSpec.plain.varTypes Try.prog).any (Try.prog.loopsFrom ·)) = true := by kernel_rfl
theorem fact_wideKeys : (Rows.headGetsRow.wideKeys == (Try.f19.params.toList ++ Rows.headGetsSpec.plain.varTypes Try.prog ++ Try.f19.resultTypes.toList).any (Try.prog.wideKeysFrom ·)) = true := by kernel_rfl
theorem fact_vars : (Rows.headGetsSpec.vars.all (Try.prog.varReadable ·)) = true := by kernel_rfl
theorem fact_results : (Try.f19.resultTypes.all (fun t => Try.prog.readableRec t && decide (t < Try.prog.types.size))) = true := by kernel_rfl
theorem fact_ifacesOut : (Rows.headGetsRow.ifacesOut == Try.f19.resultTypes.toList.any (Try.prog.ifacesRec ·)) = true := by kernel_rfl
theorem fact_loopsOut : (Rows.headGetsRow.loopsOut == Try.f19.resultTypes.toList.any (Try.prog.loopsFrom ·)) = true := by kernel_rfl
theorem fact_short : (Rows.headGetsRow.shortTexts.isNone) = true := by kernel_rfl
theorem fact_pinned : (Rows.headGetsRow.pinned == Rows.headGetsRow.pinnedBy) = true := by kernel_rfl
theorem fact_veiled : (Rows.headGetsRow.veiled == (Try.f19.params.toList ++ Rows.headGetsSpec.plain.varTypes Try.prog ++ Try.f19.resultTypes.toList).any (Try.prog.veiledRec ·)) = true := by kernel_rfl
theorem fact_fits : (Rows.headGetsRow.veiledFits Try.prog Try.f19.params.toList (Try.f19.params.toList ++ Rows.headGetsSpec.plain.varTypes Try.prog ++ Try.f19.resultTypes.toList)) = true := by kernel_rfl
theorem closed : joinedFacts Try.prog 19 Try.f19 Rows.headGetsSpec Rows.headGetsRow = true := by
  unfold joinedFacts
  simp only [Bool.and_eq_true]
  exact ⟨⟨⟨⟨⟨⟨⟨⟨⟨⟨⟨⟨⟨⟨⟨⟨⟨⟨⟨⟨⟨⟨⟨⟨⟨⟨⟨⟨⟨⟨⟨fact_wf, fact_laid⟩, fact_mapsRowed⟩, fact_readable⟩, fact_tie⟩, fact_stops⟩, fact_pstops⟩, fact_knobs⟩, fact_pknobs⟩, fact_inPlace⟩, fact_unfollowed⟩, fact_recurses⟩, fact_named⟩, fact_maps⟩, fact_ifaces⟩, fact_mapsOut⟩, fact_loops⟩, fact_wideKeys⟩, fact_vars⟩, fact_results⟩, fact_ifacesOut⟩, fact_loopsOut⟩, fact_plainKeys⟩, fact_short⟩, fact_heard⟩, fact_mayEnter⟩, fact_lifted⟩, fact_make⟩, (by kernel_rfl)⟩, fact_pinned⟩, fact_veiled⟩, fact_fits⟩

theorem over : Rows.headGetsRow.holds Try.pinned (OpenSpec.ofChange Rows.headGetsSpec) :=
  OpenClaim.holds_of_wide 19 Try.f19 rfl rfl rfl rfl rfl rfl rfl ⟨rfl, rfl, rfl, rfl, rfl⟩ rfl rfl rfl rfl rfl (by kernel_rfl) Try.func19 closed
    (of_decide_eq_true (by kernel_rfl)) (by unfold Func.isWrapper; first | (rw [if_pos (by decide +kernel)]; kernel_rfl) | (rw [if_neg (by decide +kernel)]; exact ⟨rfl, rfl⟩))
    (fun os started H enc _ => lifted os started H enc)

/-- The statement. -/
theorem proved : Rows.HeadGetsSaid :=
  over
#print axioms proved
end Go.Proofs.Ytdkcjmpikmnedaa.headGets
