/- Proved: for every input 'peatbanklaw10.FrameTurned' returns true, and each argument reads behind the call as it read before; no condition of mine. -/
import Derived.Test.YtdkcjmpikmnedaaRows
import Derived.Test.YtdkcjmpikmnedaaOpenB
import Derived.Test.YtdkcjmpikmnedaaLaw10g
import Derived.Test.YtdkcjmpikmnedaaFacts
import Derived.WalkKit
import Derived.ProofKit
import Derived.OpenShut
import Derived.ShutString
import Derived.ChangeOld
import Derived.Below
import Derived.SizedLaws
namespace Go.Proofs.Ytdkcjmpikmnedaa.frameTurned
open Go.ChangeShapes Go.WideShapes Go.ChangeAt Go.RowKit
set_option linter.unusedVariables false

/-! ### The row -/
set_option maxRecDepth 100000 in
theorem lifted (os : Os) (started : os.Started) (H : Type) (enc : TypeId × Value → H) :
    ReturnsInHanded {} Try.checked os 13 .any (Rows.frameTurnedSpec.pre6 enc Try.prog Try.f13 Rows.frameTurnedRow.domain false) (Rows.frameTurnedSpec.post enc Try.prog Try.f13 false true false false) := by
  refine returnsInHanded_of_change_sized (C := Try.checked) own_knob started (by kernel_rfl) Try.func13
    (ChangeSpec.witness6 (enc := enc) (C := Try.checked) false ⟨#[], #[.agg #[.int .i64 0, .int .i64 0, .int .i64 0, .slice none 0 0], .int .i64 0, .int .u8 0, .slice none 0 0], []⟩ 8 (by kernel_rfl) (by kernel_rfl) (by kernel_rfl) (by kernel_rfl)) ?_
  intro W base args ds gs before hval0 hW hcnd hsz0 _
  have hval : ∀ (j : Nat) t v, Try.f13.params[j]? = some t → args[j]? = some v → Value.okWide Try.prog W .any base t v := hval0
  have hW' := hW
  obtain ⟨p, q, hA0, hV, rfl, hfz, hnd⟩ := hW
  have hA : DataW.TrodAll enc Try.prog W 0 (fun _ => true) true Try.f13.params.toList args.toList ds p := hA0
  have hsz := hsz0
  rw [Try.params13] at hA hval hsz
  obtain ⟨v0, vs0, d0, ds0, p0, q0, hargs, rfl, rfl, h0, r_0⟩ := trodAll_cons hA
  obtain ⟨v1, vs1, d1, ds1, p1, q1, rfl, rfl, rfl, h1, r_1⟩ := trodAll_cons r_0
  obtain ⟨v2, vs2, d2, ds2, p2, q2, rfl, rfl, rfl, h2, r_2⟩ := trodAll_cons r_1
  obtain ⟨v3, vs3, d3, ds3, p3, q3, rfl, rfl, rfl, h3, r_3⟩ := trodAll_cons r_2
  obtain ⟨rfl, rfl, rfl⟩ := trodAll_nil r_3
  obtain rfl : args = #[v0, v1, v2, v3] := by cases args; simp_all
  obtain ⟨rfl, rfl⟩ := trodVars_none hV
  have k_0 := h0
  have lt_0 : ∀ x ∈ p0, x.block < W.heap.size := by obtain ⟨m, hm⟩ := k_0; exact DataW.trod_lt m _ _ _ hm
  have k_1 := h1
  have lt_1 : ∀ x ∈ p1, x.block < W.heap.size := by obtain ⟨m, hm⟩ := k_1; exact DataW.trod_lt m _ _ _ hm
  have k_2 := h2
  have lt_2 : ∀ x ∈ p2, x.block < W.heap.size := by obtain ⟨m, hm⟩ := k_2; exact DataW.trod_lt m _ _ _ hm
  have k_3 := h3
  have lt_3 : ∀ x ∈ p3, x.block < W.heap.size := by obtain ⟨m, hm⟩ := k_3; exact DataW.trod_lt m _ _ _ hm
  obtain ⟨k0, e0, s0, A0, l0, c0, rfl, hl0, hA0, r0, x0⟩ := open_frame (hval 0 68 v0 rfl rfl) h0
  have z0 := frame_sized hsz (j := 0) rfl rfl x0
  obtain ⟨a1, rfl, rfl, rfl, w1⟩ := open_int Try.underlying3 (hval 1 3 v1 rfl rfl) h1
  obtain ⟨a2, rfl, rfl, rfl, w2⟩ := open_int Try.underlying5 (hval 2 5 v2 rfl rfl) h2
  obtain ⟨A3, l3, c3, rfl, hl3, hA3, r3, x3⟩ := open_row (hval 3 23 v3 rfl rfl) h3
  have z3 := bytes_sized hsz (j := 3) rfl rfl x3
  clear hA0 hval0 hsz0
  obtain ⟨y2, rfl⟩ := open_u8 w2
  refine (frameTurned_any k0 e0 s0 A0 A3 c0 c3 l0 l3 _ _ a1 y2 W r0 z0 r3 z3).mono fun e W' ⟨he, bel⟩ => ?_
  subst he
  exact ⟨_, rfl, _, _, _, [], _, [], hW', trodAll_mk1 (shut_bool Try.underlying4 _), (trodAll_cons_mk (Below.trod laid_out (by kernel_rfl) (of_decide_eq_true (by kernel_rfl)) k_0 bel lt_0) (trodAll_cons_mk (Below.trod laid_out (by kernel_rfl) (of_decide_eq_true (by kernel_rfl)) k_1 bel lt_1) (trodAll_cons_mk (Below.trod laid_out (by kernel_rfl) (of_decide_eq_true (by kernel_rfl)) k_2 bel lt_2) (trodAll_cons_mk (Below.trod laid_out (by kernel_rfl) (of_decide_eq_true (by kernel_rfl)) k_3 bel lt_3) trodAll_mk0)))), rfl, bel.frame _, fun h => by cases h⟩

theorem fact_wf : (Rows.frameTurnedRow.wf (OpenSpec.ofChange Rows.frameTurnedSpec)) = true := by kernel_rfl
theorem fact_readable : (Try.f13.params.all (Try.prog.readableRec ·)) = true := by kernel_rfl
theorem fact_tie : (namedTie Try.prog Rows.frameTurnedRow.named Rows.frameTurnedSpec.vars) = true := by kernel_rfl
theorem fact_stops : (Rows.frameTurnedRow.stops == []) = true := by kernel_rfl
theorem fact_knobs : (Rows.frameTurnedRow.knobs == []) = true := by kernel_rfl
theorem fact_inPlace : (Rows.frameTurnedRow.inPlace == Try.prog.inPlace 13) = true := by kernel_rfl
theorem fact_unfollowed : (Rows.frameTurnedRow.unfollowed == Try.prog.unfollowed 13) = true := by kernel_rfl
theorem fact_recurses : (Rows.frameTurnedRow.recurses == Try.prog.recurses 13) = true := by kernel_rfl
theorem fact_named : (Rows.frameTurnedRow.named == Try.prog.varsNamed 13) = true := by kernel_rfl
theorem fact_maps : (Rows.frameTurnedRow.maps == (Try.f13.params.toList ++ Rows.frameTurnedSpec.plain.varTypes Try.prog).any (Try.prog.mapsRec ·)) = true := by kernel_rfl
theorem fact_ifaces : (Rows.frameTurnedRow.ifaces == (Try.f13.params.toList ++ Rows.frameTurnedSpec.plain.varTypes Try.prog).any (Try.prog.ifacesRec ·)) = true := by kernel_rfl
theorem fact_mapsOut : (Rows.frameTurnedRow.mapsOut == Try.prog.mapsAmong Try.f13.resultTypes.toList) = true := by kernel_rfl
theorem fact_loops : (Rows.frameTurnedRow.loops == (Try.f13.params.toList ++ Rows.frameTurnedSpec.plain.varTypes Try.prog).any (Try.prog.loopsFrom ·)) = true := by kernel_rfl
theorem fact_wideKeys : (Rows.frameTurnedRow.wideKeys == (Try.f13.params.toList ++ Rows.frameTurnedSpec.plain.varTypes Try.prog ++ Try.f13.resultTypes.toList).any (Try.prog.wideKeysFrom ·)) = true := by kernel_rfl
theorem fact_vars : (Rows.frameTurnedSpec.vars.all (Try.prog.varReadable ·)) = true := by kernel_rfl
theorem fact_results : (Try.f13.resultTypes.all (fun t => Try.prog.readableRec t && decide (t < Try.prog.types.size))) = true := by kernel_rfl
theorem fact_ifacesOut : (Rows.frameTurnedRow.ifacesOut == Try.f13.resultTypes.toList.any (Try.prog.ifacesRec ·)) = true := by kernel_rfl
theorem fact_loopsOut : (Rows.frameTurnedRow.loopsOut == Try.f13.resultTypes.toList.any (Try.prog.loopsFrom ·)) = true := by kernel_rfl
theorem fact_short : (Rows.frameTurnedRow.shortTexts.isNone) = true := by kernel_rfl
theorem fact_pinned : (Rows.frameTurnedRow.pinned == Rows.frameTurnedRow.pinnedBy) = true := by kernel_rfl
theorem fact_veiled : (Rows.frameTurnedRow.veiled == (Try.f13.params.toList ++ Rows.frameTurnedSpec.plain.varTypes Try.prog ++ Try.f13.resultTypes.toList).any (Try.prog.veiledRec ·)) = true := by kernel_rfl
theorem fact_fits : (Rows.frameTurnedRow.veiledFits Try.prog Try.f13.params.toList (Try.f13.params.toList ++ Rows.frameTurnedSpec.plain.varTypes Try.prog ++ Try.f13.resultTypes.toList)) = true := by kernel_rfl
theorem closed : joinedFacts Try.prog 13 Try.f13 Rows.frameTurnedSpec Rows.frameTurnedRow = true := by
  unfold joinedFacts
  simp only [Bool.and_eq_true]
  exact ⟨⟨⟨⟨⟨⟨⟨⟨⟨⟨⟨⟨⟨⟨⟨⟨⟨⟨⟨⟨⟨⟨⟨⟨⟨⟨⟨⟨⟨⟨⟨fact_wf, fact_laid⟩, fact_mapsRowed⟩, fact_readable⟩, fact_tie⟩, fact_stops⟩, fact_pstops⟩, fact_knobs⟩, fact_pknobs⟩, fact_inPlace⟩, fact_unfollowed⟩, fact_recurses⟩, fact_named⟩, fact_maps⟩, fact_ifaces⟩, fact_mapsOut⟩, fact_loops⟩, fact_wideKeys⟩, fact_vars⟩, fact_results⟩, fact_ifacesOut⟩, fact_loopsOut⟩, fact_plainKeys⟩, fact_short⟩, fact_heard⟩, fact_mayEnter⟩, fact_lifted⟩, fact_make⟩, (by kernel_rfl)⟩, fact_pinned⟩, fact_veiled⟩, fact_fits⟩

theorem over : Rows.frameTurnedRow.holds Try.pinned (OpenSpec.ofChange Rows.frameTurnedSpec) :=
  OpenClaim.holds_of_wide 13 Try.f13 rfl rfl rfl rfl rfl rfl rfl ⟨rfl, rfl, rfl, rfl, rfl⟩ rfl rfl rfl rfl rfl (by kernel_rfl) Try.func13 closed
    (of_decide_eq_true (by kernel_rfl)) (by unfold Func.isWrapper; first | (rw [if_pos (by decide +kernel)]; kernel_rfl) | (rw [if_neg (by decide +kernel)]; exact ⟨rfl, rfl⟩))
    (fun os started H enc _ => lifted os started H enc)

/-- The statement. -/
theorem proved : Rows.FrameTurnedSaid :=
  over
#print axioms proved
end Go.Proofs.Ytdkcjmpikmnedaa.frameTurned
