/- Proved: for every input 'peatbanklaw02.CrcTables' returns true, and each argument reads behind the call as it read before; no condition of mine. -/
import Derived.Test.YtdkcjmpikmnedaaRows
import Derived.Test.YtdkcjmpikmnedaaOpen
import Derived.Test.YtdkcjmpikmnedaaLaw02
import Derived.Test.YtdkcjmpikmnedaaFacts
import Derived.WalkKit
import Derived.ProofKit
import Derived.OpenShut
import Derived.ShutString
import Derived.ChangeOld
import Derived.Below
namespace Go.Proofs.Ytdkcjmpikmnedaa.crcTables
open Go.ChangeShapes Go.WideShapes Go.ChangeAt Go.RowKit
set_option linter.unusedVariables false


/-! ### The walk -/
theorem walk (a0 : Int) (a1 : Int) (a2 : Option Addr) (len2 cap2 : Nat) (z2 : List Int) (w : World) (w0 : (Lit.int .u32 a0).wf = true) (w1 : (Lit.int .u32 a1).wf = true) (w2 : IsRow .u8 w a2 len2 cap2 z2) :
    Calls Try.prog 4 #[.int .u32 a0, .int .u32 a1, .slice a2 len2 cap2] w fun e w' => e = .returned (.bool true) ∧ Below w.heap.size w w' := by
  obtain ⟨p, rfl⟩ := open_u32 w0
  obtain ⟨s, rfl⟩ := open_u32 w1
  obtain ⟨l, rfl, _, _, hr⟩ := open_bytes w2
  exact crcTables_any p s a2 cap2 l w hr

/-! ### The row -/
set_option maxRecDepth 100000 in
theorem lifted (os : Os) (started : os.Started) (H : Type) (enc : TypeId × Value → H) :
    ReturnsInHanded {} Try.checked os 4 .any (Rows.crcTablesSpec.pre6 enc Try.prog Try.f4 Rows.crcTablesRow.domain false) (Rows.crcTablesSpec.post enc Try.prog Try.f4 false true false false) := by
  refine returnsInHanded_of_change (C := Try.checked) own_knob started (by kernel_rfl) Try.func4
    (ChangeSpec.witness6 (enc := enc) (C := Try.checked) false ⟨#[], #[.int .u32 0, .int .u32 0, .slice none 0 0], []⟩ 8 (by kernel_rfl) (by kernel_rfl) (by kernel_rfl) (by kernel_rfl)) ?_
  intro W base args ds gs before hval0 hW hcnd _
  have hval : ∀ (j : Nat) t v, Try.f4.params[j]? = some t → args[j]? = some v → Value.okWide Try.prog W .any base t v := hval0
  have hW' := hW
  obtain ⟨p, q, hA0, hV, rfl, hfz, hnd⟩ := hW
  have hA : DataW.TrodAll enc Try.prog W 0 (fun _ => true) true Try.f4.params.toList args.toList ds p := hA0
  rw [Try.params4] at hA hval
  obtain ⟨v0, vs0, d0, ds0, p0, q0, hargs, rfl, rfl, h0, r0⟩ := trodAll_cons hA
  obtain ⟨v1, vs1, d1, ds1, p1, q1, rfl, rfl, rfl, h1, r1⟩ := trodAll_cons r0
  obtain ⟨v2, vs2, d2, ds2, p2, q2, rfl, rfl, rfl, h2, r2⟩ := trodAll_cons r1
  obtain ⟨rfl, rfl, rfl⟩ := trodAll_nil r2
  obtain rfl : args = #[v0, v1, v2] := by cases args; simp_all
  obtain ⟨rfl, rfl⟩ := trodVars_none hV
  obtain ⟨a0, rfl, rfl, rfl, w0⟩ := open_int Try.underlying22 (hval 0 22 v0 rfl rfl) h0
  obtain ⟨a1, rfl, rfl, rfl, w1⟩ := open_int Try.underlying22 (hval 1 22 v1 rfl rfl) h1
  obtain ⟨a2, len2, cap2, rfl⟩ := okWide_slice Try.underlying23 (hval 2 23 v2 rfl rfl)
  have k2 := h2
  have lt2 : ∀ x ∈ p2, x.block < W.heap.size := by obtain ⟨m, hm⟩ := k2; exact DataW.trod_lt m _ _ _ hm
  obtain ⟨z2, w2⟩ : ∃ zs, IsRow .u8 W a2 len2 cap2 zs := by
    obtain ⟨fuel, hf⟩ := h2
    rcases open_ints Try.underlying23 Try.underlying5 (by kernel_rfl) hf with ⟨hcs, _⟩ | ⟨x, l, c, zs, hcs, _, hl, hm, hz, _, hcell, hwz⟩
    · simp [Value.cells] at hcs
      obtain ⟨rfl, rfl, rfl⟩ := hcs
      exact ⟨[], .inl ⟨rfl, rfl, rfl, rfl⟩⟩
    · simp [Value.cells] at hcs
      obtain ⟨rfl, rfl, rfl⟩ := hcs
      exact ⟨zs, .inr ⟨_, rfl, hl, hm, by simpa using hz, hcell, hwz⟩⟩
  clear hA0 hval0
  refine (walk a0 a1 a2 len2 cap2 z2 W w0 w1 w2).mono fun e W' ⟨he, bel⟩ => ?_
  subst he
  exact ⟨_, rfl, _, _, _, [], _, [], hW', trodAll_mk1 (shut_bool Try.underlying4 _), (trodAll_cons_mk (shut_int Try.underlying22 w0) (trodAll_cons_mk (shut_int Try.underlying22 w1) (trodAll_cons_mk (Below.trod laid_out (by kernel_rfl) (of_decide_eq_true (by kernel_rfl)) k2 bel lt2) trodAll_mk0))), rfl, bel.frame _, fun h => by cases h⟩

theorem fact_wf : (Rows.crcTablesRow.wf (OpenSpec.ofChange Rows.crcTablesSpec)) = true := by kernel_rfl
theorem fact_readable : (Try.f4.params.all (Try.prog.readableRec ·)) = true := by kernel_rfl
theorem fact_tie : (namedTie Try.prog Rows.crcTablesRow.named Rows.crcTablesSpec.vars) = true := by kernel_rfl
theorem fact_stops : (Rows.crcTablesRow.stops == []) = true := by kernel_rfl
theorem fact_knobs : (Rows.crcTablesRow.knobs == []) = true := by kernel_rfl
theorem fact_inPlace : (Rows.crcTablesRow.inPlace == Try.prog.inPlace 4) = true := by kernel_rfl
theorem fact_unfollowed : (Rows.crcTablesRow.unfollowed == Try.prog.unfollowed 4) = true := by kernel_rfl
theorem fact_recurses : (Rows.crcTablesRow.recurses == Try.prog.recurses 4) = true := by kernel_rfl
theorem fact_named : (Rows.crcTablesRow.named == Try.prog.varsNamed 4) = true := by kernel_rfl
theorem fact_maps : (Rows.crcTablesRow.maps == (Try.f4.params.toList ++ Rows.crcTablesSpec.plain.varTypes Try.prog).any (Try.prog.mapsRec ·)) = true := by kernel_rfl
theorem fact_ifaces : (Rows.crcTablesRow.ifaces == (Try.f4.params.toList ++ Rows.crcTablesSpec.plain.varTypes Try.prog).any (Try.prog.ifacesRec ·)) = true := by kernel_rfl
theorem fact_mapsOut : (Rows.crcTablesRow.mapsOut == Try.prog.mapsAmong Try.f4.resultTypes.toList) = true := by kernel_rfl
theorem fact_loops : (Rows.crcTablesRow.loops == (Try.f4.params.toList ++ Rows.crcTablesSpec.plain.varTypes Try.prog).any (Try.prog.loopsFrom ·)) = true := by kernel_rfl
theorem fact_wideKeys : (Rows.crcTablesRow.wideKeys == (Try.f4.params.toList ++ Rows.crcTablesSpec.plain.varTypes Try.prog ++ Try.f4.resultTypes.toList).any (Try.prog.wideKeysFrom ·)) = true := by kernel_rfl
theorem fact_vars : (Rows.crcTablesSpec.vars.all (Try.prog.varReadable ·)) = true := by kernel_rfl
theorem fact_results : (Try.f4.resultTypes.all (fun t => Try.prog.readableRec t && decide (t < Try.prog.types.size))) = true := by kernel_rfl
theorem fact_ifacesOut : (Rows.crcTablesRow.ifacesOut == Try.f4.resultTypes.toList.any (Try.prog.ifacesRec ·)) = true := by kernel_rfl
theorem fact_loopsOut : (Rows.crcTablesRow.loopsOut == Try.f4.resultTypes.toList.any (Try.prog.loopsFrom ·)) = true := by kernel_rfl
theorem fact_short : (Rows.crcTablesRow.shortTexts.isNone) = true := by kernel_rfl
theorem fact_pinned : (Rows.crcTablesRow.pinned == Rows.crcTablesRow.pinnedBy) = true := by kernel_rfl
theorem fact_veiled : (Rows.crcTablesRow.veiled == (Try.f4.params.toList ++ Rows.crcTablesSpec.plain.varTypes Try.prog ++ Try.f4.resultTypes.toList).any (Try.prog.veiledRec ·)) = true := by kernel_rfl
theorem fact_fits : (Rows.crcTablesRow.veiledFits Try.prog Try.f4.params.toList (Try.f4.params.toList ++ Rows.crcTablesSpec.plain.varTypes Try.prog ++ Try.f4.resultTypes.toList)) = true := by kernel_rfl
theorem closed : joinedFacts Try.prog 4 Try.f4 Rows.crcTablesSpec Rows.crcTablesRow = true := by
  unfold joinedFacts
  simp only [Bool.and_eq_true]
  exact ⟨⟨⟨⟨⟨⟨⟨⟨⟨⟨⟨⟨⟨⟨⟨⟨⟨⟨⟨⟨⟨⟨⟨⟨⟨⟨⟨⟨⟨⟨⟨fact_wf, fact_laid⟩, fact_mapsRowed⟩, fact_readable⟩, fact_tie⟩, fact_stops⟩, fact_pstops⟩, fact_knobs⟩, fact_pknobs⟩, fact_inPlace⟩, fact_unfollowed⟩, fact_recurses⟩, fact_named⟩, fact_maps⟩, fact_ifaces⟩, fact_mapsOut⟩, fact_loops⟩, fact_wideKeys⟩, fact_vars⟩, fact_results⟩, fact_ifacesOut⟩, fact_loopsOut⟩, fact_plainKeys⟩, fact_short⟩, fact_heard⟩, fact_mayEnter⟩, fact_lifted⟩, fact_make⟩, (by kernel_rfl)⟩, fact_pinned⟩, fact_veiled⟩, fact_fits⟩

theorem over : Rows.crcTablesRow.holds Try.pinned (OpenSpec.ofChange Rows.crcTablesSpec) :=
  OpenClaim.holds_of_wide 4 Try.f4 rfl rfl rfl rfl rfl rfl rfl ⟨rfl, rfl, rfl, rfl, rfl⟩ rfl rfl rfl rfl rfl (by kernel_rfl) Try.func4 closed
    (of_decide_eq_true (by kernel_rfl)) (by unfold Func.isWrapper; first | (rw [if_pos (by decide +kernel)]; kernel_rfl) | (rw [if_neg (by decide +kernel)]; exact ⟨rfl, rfl⟩))
    (fun os started H enc _ => lifted os started H enc)

/-- The statement. -/
theorem proved : Rows.CrcTablesSaid := over
#print axioms proved
end Go.Proofs.Ytdkcjmpikmnedaa.crcTables
