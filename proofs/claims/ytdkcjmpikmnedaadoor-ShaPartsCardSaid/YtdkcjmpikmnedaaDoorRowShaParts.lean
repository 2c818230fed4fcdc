/- Proved: for every input 'peatbanklaw01.ShaParts' returns true, and each argument reads behind the call as it read before; no condition of mine. -/
import Derived.Test.YtdkcjmpikmnedaaDoorRows
import Derived.Test.YtdkcjmpikmnedaaDoorTie
import Derived.Test.YtdkcjmpikmnedaaDoorCards
import Derived.Test.YtdkcjmpikmnedaaDoorOpenB
import Derived.Test.YtdkcjmpikmnedaaDoorLaid
import Derived.Test.YtdkcjmpikmnedaaDoorLaw01d
import Derived.Test.YtdkcjmpikmnedaaDoorRowsAt
import Derived.Test.YtdkcjmpikmnedaaDoorFacts
import Derived.WalkKit
import Derived.ProofKit
import Derived.OpenShut
import Derived.ShutString
import Derived.ChangeOld
import Derived.Below
import Derived.SizedLaws
import Derived.LaidMore
import Derived.Stop.Joined
import Derived.SevenTiedAt
namespace Go.Proofs.YtdkcjmpikmnedaaDoor.shaParts
open Go.ChangeShapes Go.WideShapes Go.ChangeAt Go.RowKit
set_option linter.unusedVariables false

/-! ### The row -/
set_option maxRecDepth 100000 in
theorem lifted (os : Os) (started : os.Started) (H : Type) (enc : TypeId × Value → H) :
    ReturnsInHanded {} Tryd.checked os 6 .any (fun w args => (Rows.shaPartsSpec.pre enc Tryd.prog Tryd.f6 [] false w args ∧ laidMetH Tryd.prog laid2 w) ∧ sizedMet enc Tryd.prog Tryd.f6 (OpenSpec.ofChange Rows.shaPartsSpec) false w args) (Rows.shaPartsSpec.post enc Tryd.prog Tryd.f6 false true false false) := by
  refine returnsInHanded_of_change_and (C := Tryd.checked) (X := fun w _ => laidMetH Tryd.prog laid2 w) (fun _ _ _ hh h => h.of_heap hh) own_knob started (by kernel_rfl) Tryd.func6
    (ChangeSpec.witness_shaped (enc := enc) (C := Tryd.checked) (os := os) (X := fun w _ => laidMetH Tryd.prog laid2 w) false (World.doorLaid Tryd.prog 19 os) #[.slice none 0 0] 8 rfl (World.shaped_of_RefB (by kernel_rfl) (by kernel_rfl)) (by kernel_rfl) (by kernel_rfl) (by kernel_rfl) (door_met os _)) ?_
  intro W base args ds gs before hval0 hW hcnd hsz0 hL0 _
  have L := of_laid hL0
  have hval : ∀ (j : Nat) t v, Tryd.f6.params[j]? = some t → args[j]? = some v → Value.okWide Tryd.prog W .any base t v := hval0
  have hW' := hW
  obtain ⟨p, q, hA0, hV, rfl, hfz, hnd⟩ := hW
  have hA : DataW.TrodAll enc Tryd.prog W 0 (fun _ => true) true Tryd.f6.params.toList args.toList ds p := hA0
  have hsz := hsz0
  rw [Tryd.params6] at hA hval hsz
  obtain ⟨v0, vs0, d0, ds0, p0, q0, hargs, rfl, rfl, h0, r_0⟩ := trodAll_cons hA
  obtain ⟨rfl, rfl, rfl⟩ := trodAll_nil r_0
  obtain rfl : args = #[v0] := by cases args; simp_all
  obtain ⟨rfl, rfl⟩ := trodVars_none hV
  have k_0 := h0
  have lt_0 : ∀ x ∈ p0, x.block < W.heap.size := by obtain ⟨m, hm⟩ := k_0; exact DataW.trod_lt m _ _ _ hm
  obtain ⟨A0, l0, c0, rfl, hl0, r0⟩ := open_rows (hval 0 53 v0 rfl rfl) h0
  clear hA0 hval0 hsz0
  refine (shaParts_any A0 c0 l0 W L r0).mono fun e W' ⟨he, bel⟩ => ?_
  subst he
  exact ⟨_, rfl, _, _, _, [], _, [], hW', trodAll_mk1 (shut_bool Tryd.underlying4 _), (trodAll_cons_mk (Below.trod laid_out (by kernel_rfl) (of_decide_eq_true (by kernel_rfl)) k_0 bel lt_0) trodAll_mk0), rfl, bel.frame _, fun h => by cases h⟩

theorem fact_wf : (Rows.shaPartsRow.wf (OpenSpec.ofChange Rows.shaPartsSpec)) = true := by kernel_rfl
theorem fact_readable : (Tryd.f6.params.all (Tryd.prog.readableRec ·)) = true := by kernel_rfl
theorem fact_tie : (namedTie Tryd.prog Rows.shaPartsRow.named Rows.shaPartsSpec.vars) = true := by kernel_rfl
theorem fact_stops : (Rows.shaPartsRow.stops == []) = true := by kernel_rfl
theorem fact_knobs : (Rows.shaPartsRow.knobs == []) = true := by kernel_rfl
theorem fact_inPlace : (Rows.shaPartsRow.inPlace == Tryd.prog.inPlace 6) = true := by kernel_rfl
theorem fact_unfollowed : (Rows.shaPartsRow.unfollowed == Tryd.prog.unfollowed 6) = true := by kernel_rfl
theorem fact_recurses : (Rows.shaPartsRow.recurses == Tryd.prog.recurses 6) = true := by kernel_rfl
theorem fact_named : (Rows.shaPartsRow.named == Tryd.prog.varsNamed 6) = true := by kernel_rfl
theorem fact_maps : (Rows.shaPartsRow.maps == (Tryd.f6.params.toList ++ Rows.shaPartsSpec.plain.varTypes Tryd.prog).any (Tryd.prog.mapsRec ·)) = true := by kernel_rfl
theorem fact_ifaces : (Rows.shaPartsRow.ifaces == (Tryd.f6.params.toList ++ Rows.shaPartsSpec.plain.varTypes Tryd.prog).any (Tryd.prog.ifacesRec ·)) = true := by kernel_rfl
theorem fact_mapsOut : (Rows.shaPartsRow.mapsOut == Tryd.prog.mapsAmong Tryd.f6.resultTypes.toList) = true := by kernel_rfl
theorem fact_loops : (Rows.shaPartsRow.loops == (Tryd.f6.params.toList ++ Rows.shaPartsSpec.plain.varTypes Tryd.prog).any (Tryd.prog.loopsFrom ·)) = true := by kernel_rfl
theorem fact_wideKeys : (Rows.shaPartsRow.wideKeys == (Tryd.f6.params.toList ++ Rows.shaPartsSpec.plain.varTypes Tryd.prog ++ Tryd.f6.resultTypes.toList).any (Tryd.prog.wideKeysFrom ·)) = true := by kernel_rfl
theorem fact_vars : (Rows.shaPartsSpec.vars.all (Tryd.prog.varReadable ·)) = true := by kernel_rfl
theorem fact_results : (Tryd.f6.resultTypes.all (fun t => Tryd.prog.readableRec t && decide (t < Tryd.prog.types.size))) = true := by kernel_rfl
theorem fact_ifacesOut : (Rows.shaPartsRow.ifacesOut == Tryd.f6.resultTypes.toList.any (Tryd.prog.ifacesRec ·)) = true := by kernel_rfl
theorem fact_loopsOut : (Rows.shaPartsRow.loopsOut == Tryd.f6.resultTypes.toList.any (Tryd.prog.loopsFrom ·)) = true := by kernel_rfl
theorem fact_short : (Rows.shaPartsRow.shortTexts.isNone) = true := by kernel_rfl
theorem fact_pinned : (Rows.shaPartsRow.pinned == Rows.shaPartsRow.pinnedBy) = true := by kernel_rfl
theorem fact_veiled : (Rows.shaPartsRow.veiled == (Tryd.f6.params.toList ++ Rows.shaPartsSpec.plain.varTypes Tryd.prog ++ Tryd.f6.resultTypes.toList).any (Tryd.prog.veiledRec ·)) = true := by kernel_rfl
theorem fact_fits : (Rows.shaPartsRow.veiledFits Tryd.prog Tryd.f6.params.toList (Tryd.f6.params.toList ++ Rows.shaPartsSpec.plain.varTypes Tryd.prog ++ Tryd.f6.resultTypes.toList)) = true := by kernel_rfl
theorem closed : joinedFacts Tryd.prog 6 Tryd.f6 Rows.shaPartsSpec Rows.shaPartsRow = true := by
  unfold joinedFacts
  simp only [Bool.and_eq_true]
  exact ⟨⟨⟨⟨⟨⟨⟨⟨⟨⟨⟨⟨⟨⟨⟨⟨⟨⟨⟨⟨⟨⟨⟨⟨⟨⟨⟨⟨⟨⟨⟨fact_wf, fact_laid⟩, fact_mapsRowed⟩, fact_readable⟩, fact_tie⟩, fact_stops⟩, fact_pstops⟩, fact_knobs⟩, fact_pknobs⟩, fact_inPlace⟩, fact_unfollowed⟩, fact_recurses⟩, fact_named⟩, fact_maps⟩, fact_ifaces⟩, fact_mapsOut⟩, fact_loops⟩, fact_wideKeys⟩, fact_vars⟩, fact_results⟩, fact_ifacesOut⟩, fact_loopsOut⟩, fact_plainKeys⟩, fact_short⟩, fact_heard⟩, fact_mayEnter⟩, fact_lifted⟩, fact_make⟩, (by kernel_rfl)⟩, fact_pinned⟩, fact_veiled⟩, fact_fits⟩

theorem over : Rows.shaPartsRow.holds Tryd.pinned (OpenSpec.ofChange Rows.shaPartsSpec) :=
  OpenClaim.holds_of_wide 6 Tryd.f6 rfl rfl rfl rfl rfl rfl rfl ⟨rfl, rfl, rfl, rfl, rfl⟩ rfl rfl rfl rfl rfl (by kernel_rfl) Tryd.func6 closed
    (of_decide_eq_true (by kernel_rfl)) (by unfold Func.isWrapper; first | (rw [if_pos (by decide +kernel)]; kernel_rfl) | (rw [if_neg (by decide +kernel)]; exact ⟨rfl, rfl⟩))
    (fun os started H enc _ => lifted os started H enc)

/-- The statement. -/
theorem proved : Rows.ShaPartsCardSaid :=
  Claim7.holds_tied_plain_at .later [] [.data, .data] true (true, "7e500f31ab5625442de612cf1737be129596902126d0209f9b6b169e85984c06") false
    over (fun _ h => by cases h) (by kernel_rfl) (fun _ h => by cases h) shaParts_row_tie rfl ⟨rfl, rfl⟩ (by kernel_rfl) rfl
    (fun f fn hf hfn => by
      obtain rfl : f = 6 := Option.some.inj ((show Tryd.prog.funcNamed "peatbank/peatbanklaw01.ShaParts" = some 6 by kernel_rfl).symm.trans hf) |>.symm
      obtain rfl : fn = Tryd.f6 := (Option.some.inj (Tryd.func6.symm.trans hfn)).symm
      exact ⟨by kernel_rfl, fun j t ht => by
        rw [Tryd.params6] at ht
        have hm : t ∈ [53] := by simpa using Array.mem_of_getElem? ht
        have hall : ([53].all fun u => !Tryd.prog.wantsStandIn u) = true := by kernel_rfl
        exact (show Tryd.prog.wantsStandIn t = false by simpa using List.all_eq_true.1 hall t hm)⟩)
    (by kernel_rfl)
#print axioms proved
end Go.Proofs.YtdkcjmpikmnedaaDoor.shaParts
