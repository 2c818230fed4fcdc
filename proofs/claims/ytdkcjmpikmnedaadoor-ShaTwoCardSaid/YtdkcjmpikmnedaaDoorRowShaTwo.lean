/- Proved: for every input 'peatbanklaw01.ShaTwo' returns true, and each argument reads behind the call as it read before; no condition of mine. -/
import Derived.Test.YtdkcjmpikmnedaaDoorRows
import Derived.Test.YtdkcjmpikmnedaaDoorTie
import Derived.Test.YtdkcjmpikmnedaaDoorCards
import Derived.Test.YtdkcjmpikmnedaaDoorOpenB
import Derived.Test.YtdkcjmpikmnedaaDoorLaid
import Derived.Test.YtdkcjmpikmnedaaDoorLaw01c
import Derived.Test.YtdkcjmpikmnedaaDoorFacts
import Derived.WalkKit
import Derived.ProofKit
import Derived.OpenShut
import Derived.ShutString
import Derived.ChangeOld
import Derived.Below
import Derived.SizedLaws
import Derived.LaidMore
import Derived.Stop.Joined
import Derived.SevenTiedAt
namespace Go.Proofs.YtdkcjmpikmnedaaDoor.shaTwo
open Go.ChangeShapes Go.WideShapes Go.ChangeAt Go.RowKit
set_option linter.unusedVariables false

/-! ### The row -/
set_option maxRecDepth 100000 in
theorem lifted (os : Os) (started : os.Started) (H : Type) (enc : TypeId × Value → H) :
    ReturnsInHanded {} Tryd.checked os 7 .any (fun w args => (Rows.shaTwoSpec.pre enc Tryd.prog Tryd.f7 [] false w args ∧ laidMetH Tryd.prog laid2 w) ∧ sizedMet enc Tryd.prog Tryd.f7 (OpenSpec.ofChange Rows.shaTwoSpec) false w args) (Rows.shaTwoSpec.post enc Tryd.prog Tryd.f7 false true false false) := by
  refine returnsInHanded_of_change_and (C := Tryd.checked) (X := fun w _ => laidMetH Tryd.prog laid2 w) (fun _ _ _ hh h => h.of_heap hh) own_knob started (by kernel_rfl) Tryd.func7
    (ChangeSpec.witness_shaped (enc := enc) (C := Tryd.checked) (os := os) (X := fun w _ => laidMetH Tryd.prog laid2 w) false (World.doorLaid Tryd.prog 19 os) #[.slice none 0 0, .slice none 0 0] 8 rfl (World.shaped_of_RefB (by kernel_rfl) (by kernel_rfl)) (by kernel_rfl) (by kernel_rfl) (by kernel_rfl) (door_met os _)) ?_
  intro W base args ds gs before hval0 hW hcnd hsz0 hL0 _
  have L := of_laid hL0
  have hval : ∀ (j : Nat) t v, Tryd.f7.params[j]? = some t → args[j]? = some v → Value.okWide Tryd.prog W .any base t v := hval0
  have hW' := hW
  obtain ⟨p, q, hA0, hV, rfl, hfz, hnd⟩ := hW
  have hA : DataW.TrodAll enc Tryd.prog W 0 (fun _ => true) true Tryd.f7.params.toList args.toList ds p := hA0
  have hsz := hsz0
  rw [Tryd.params7] at hA hval hsz
  obtain ⟨v0, vs0, d0, ds0, p0, q0, hargs, rfl, rfl, h0, r_0⟩ := trodAll_cons hA
  obtain ⟨v1, vs1, d1, ds1, p1, q1, rfl, rfl, rfl, h1, r_1⟩ := trodAll_cons r_0
  obtain ⟨rfl, rfl, rfl⟩ := trodAll_nil r_1
  obtain rfl : args = #[v0, v1] := by cases args; simp_all
  obtain ⟨rfl, rfl⟩ := trodVars_none hV
  have k_0 := h0
  have lt_0 : ∀ x ∈ p0, x.block < W.heap.size := by obtain ⟨m, hm⟩ := k_0; exact DataW.trod_lt m _ _ _ hm
  have k_1 := h1
  have lt_1 : ∀ x ∈ p1, x.block < W.heap.size := by obtain ⟨m, hm⟩ := k_1; exact DataW.trod_lt m _ _ _ hm
  obtain ⟨A0, l0, c0, rfl, hl0, hA0, r0, x0⟩ := open_row (hval 0 22 v0 rfl rfl) h0
  have z0 := bytes_sized hsz (j := 0) rfl rfl x0
  obtain ⟨A1, l1, c1, rfl, hl1, hA1, r1, x1⟩ := open_row (hval 1 22 v1 rfl rfl) h1
  have z1 := bytes_sized hsz (j := 1) rfl rfl x1
  clear hA0 hval0 hsz0
  refine (shaTwo_any A0 A1 c0 c1 l0 l1 _ _ W L r0 r1 (by omega) (by omega)).mono fun e W' ⟨he, bel⟩ => ?_
  subst he
  exact ⟨_, rfl, _, _, _, [], _, [], hW', trodAll_mk1 (shut_bool Tryd.underlying4 _), (trodAll_cons_mk (Below.trod laid_out (by kernel_rfl) (of_decide_eq_true (by kernel_rfl)) k_0 bel lt_0) (trodAll_cons_mk (Below.trod laid_out (by kernel_rfl) (of_decide_eq_true (by kernel_rfl)) k_1 bel lt_1) trodAll_mk0)), rfl, bel.frame _, fun h => by cases h⟩

theorem fact_wf : (Rows.shaTwoRow.wf (OpenSpec.ofChange Rows.shaTwoSpec)) = true := by kernel_rfl
theorem fact_readable : (Tryd.f7.params.all (Tryd.prog.readableRec ·)) = true := by kernel_rfl
theorem fact_tie : (namedTie Tryd.prog Rows.shaTwoRow.named Rows.shaTwoSpec.vars) = true := by kernel_rfl
theorem fact_stops : (Rows.shaTwoRow.stops == []) = true := by kernel_rfl
theorem fact_knobs : (Rows.shaTwoRow.knobs == []) = true := by kernel_rfl
theorem fact_inPlace : (Rows.shaTwoRow.inPlace == Tryd.prog.inPlace 7) = true := by kernel_rfl
theorem fact_unfollowed : (Rows.shaTwoRow.unfollowed == Tryd.prog.unfollowed 7) = true := by kernel_rfl
theorem fact_recurses : (Rows.shaTwoRow.recurses == Tryd.prog.recurses 7) = true := by kernel_rfl
theorem fact_named : (Rows.shaTwoRow.named == Tryd.prog.varsNamed 7) = true := by kernel_rfl
theorem fact_maps : (Rows.shaTwoRow.maps == (Tryd.f7.params.toList ++ Rows.shaTwoSpec.plain.varTypes Tryd.prog).any (Tryd.prog.mapsRec ·)) = true := by kernel_rfl
theorem fact_ifaces : (Rows.shaTwoRow.ifaces == (Tryd.f7.params.toList ++ Rows.shaTwoSpec.plain.varTypes Tryd.prog).any (Tryd.prog.ifacesRec ·)) = true := by kernel_rfl
theorem fact_mapsOut : (Rows.shaTwoRow.mapsOut == Tryd.prog.mapsAmong Tryd.f7.resultTypes.toList) = true := by kernel_rfl
theorem fact_loops : (Rows.shaTwoRow.loops == (Tryd.f7.params.toList ++ Rows.shaTwoSpec.plain.varTypes Tryd.prog).any (Tryd.prog.loopsFrom ·)) = true := by kernel_rfl
theorem fact_wideKeys : (Rows.shaTwoRow.wideKeys == (Tryd.f7.params.toList ++ Rows.shaTwoSpec.plain.varTypes Tryd.prog ++ Tryd.f7.resultTypes.toList).any (Tryd.prog.wideKeysFrom ·)) = true := by kernel_rfl
theorem fact_vars : (Rows.shaTwoSpec.vars.all (Tryd.prog.varReadable ·)) = true := by kernel_rfl
theorem fact_results : (Tryd.f7.resultTypes.all (fun t => Tryd.prog.readableRec t && decide (t < Tryd.prog.types.size))) = true := by kernel_rfl
theorem fact_ifacesOut : (Rows.shaTwoRow.ifacesOut == Tryd.f7.resultTypes.toList.any (Tryd.prog.ifacesRec ·)) = true := by kernel_rfl
theorem fact_loopsOut : (Rows.shaTwoRow.loopsOut == Tryd.f7.resultTypes.toList.any (Tryd.prog.loopsFrom ·)) = true := by kernel_rfl
theorem fact_short : (Rows.shaTwoRow.shortTexts.isNone) = true := by kernel_rfl
theorem fact_pinned : (Rows.shaTwoRow.pinned == Rows.shaTwoRow.pinnedBy) = true := by kernel_rfl
theorem fact_veiled : (Rows.shaTwoRow.veiled == (Tryd.f7.params.toList ++ Rows.shaTwoSpec.plain.varTypes Tryd.prog ++ Tryd.f7.resultTypes.toList).any (Tryd.prog.veiledRec ·)) = true := by kernel_rfl
theorem fact_fits : (Rows.shaTwoRow.veiledFits Tryd.prog Tryd.f7.params.toList (Tryd.f7.params.toList ++ Rows.shaTwoSpec.plain.varTypes Tryd.prog ++ Tryd.f7.resultTypes.toList)) = true := by kernel_rfl
theorem closed : joinedFacts Tryd.prog 7 Tryd.f7 Rows.shaTwoSpec Rows.shaTwoRow = true := by
  unfold joinedFacts
  simp only [Bool.and_eq_true]
  exact ⟨⟨⟨⟨⟨⟨⟨⟨⟨⟨⟨⟨⟨⟨⟨⟨⟨⟨⟨⟨⟨⟨⟨⟨⟨⟨⟨⟨⟨⟨⟨fact_wf, fact_laid⟩, fact_mapsRowed⟩, fact_readable⟩, fact_tie⟩, fact_stops⟩, fact_pstops⟩, fact_knobs⟩, fact_pknobs⟩, fact_inPlace⟩, fact_unfollowed⟩, fact_recurses⟩, fact_named⟩, fact_maps⟩, fact_ifaces⟩, fact_mapsOut⟩, fact_loops⟩, fact_wideKeys⟩, fact_vars⟩, fact_results⟩, fact_ifacesOut⟩, fact_loopsOut⟩, fact_plainKeys⟩, fact_short⟩, fact_heard⟩, fact_mayEnter⟩, fact_lifted⟩, fact_make⟩, (by kernel_rfl)⟩, fact_pinned⟩, fact_veiled⟩, fact_fits⟩

theorem over : Rows.shaTwoRow.holds Tryd.pinned (OpenSpec.ofChange Rows.shaTwoSpec) :=
  OpenClaim.holds_of_wide 7 Tryd.f7 rfl rfl rfl rfl rfl rfl rfl ⟨rfl, rfl, rfl, rfl, rfl⟩ rfl rfl rfl rfl rfl (by kernel_rfl) Tryd.func7 closed
    (of_decide_eq_true (by kernel_rfl)) (by unfold Func.isWrapper; first | (rw [if_pos (by decide +kernel)]; kernel_rfl) | (rw [if_neg (by decide +kernel)]; exact ⟨rfl, rfl⟩))
    (fun os started H enc _ => lifted os started H enc)

/-- The statement. -/
theorem proved : Rows.ShaTwoCardSaid :=
  Claim7.holds_tied_plain_at .later [] [.data, .data] true (true, "7e500f31ab5625442de612cf1737be129596902126d0209f9b6b169e85984c06") false
    over (fun _ h => by cases h) (by kernel_rfl) (fun _ h => by cases h) shaTwo_row_tie rfl ⟨rfl, rfl⟩ (by kernel_rfl) rfl
    (fun f fn hf hfn => by
      obtain rfl : f = 7 := Option.some.inj ((show Tryd.prog.funcNamed "peatbank/peatbanklaw01.ShaTwo" = some 7 by kernel_rfl).symm.trans hf) |>.symm
      obtain rfl : fn = Tryd.f7 := (Option.some.inj (Tryd.func7.symm.trans hfn)).symm
      exact ⟨by kernel_rfl, fun j t ht => by
        rw [Tryd.params7] at ht
        have hm : t ∈ [22, 22] := by simpa using Array.mem_of_getElem? ht
        have hall : ([22, 22].all fun u => !Tryd.prog.wantsStandIn u) = true := by kernel_rfl
        exact (show Tryd.prog.wantsStandIn t = false by simpa using List.all_eq_true.1 hall t hm)⟩)
    (by kernel_rfl)
#print axioms proved
end Go.Proofs.YtdkcjmpikmnedaaDoor.shaTwo
