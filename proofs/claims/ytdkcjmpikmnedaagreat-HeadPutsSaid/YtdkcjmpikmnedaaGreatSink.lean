/- A region that draws its order and ends in one operation that waits for all: what is known of the world need hold only till that one comes. -/
import Derived.Test.YtdkcjmpikmnedaaGreatOrder
import Derived.Test.YtdkcjmpikmnedaaGreatMem
import Derived.RegionTactic
namespace Go.Proofs.YtdkcjmpikmnedaaGreat
open Go.RowKit

section
variable {P : Program} {ops : Array Oper} {Q : Exit → Act → World → Prop} {md : Region.Mode} {m : Nat} {S : World → Prop}

/-- Whatever order is picked; till number m has come, S holds behind each operation. -/
def wpAnyL (P : Program) (md : Region.Mode) (ops : Array Oper) (Q : Exit → Act → World → Prop) (m : Nat) (S : World → Prop) : Nat → Array Bool → Act → World → Prop
  | 0, listed, a, w => Region.ready md ops listed = [] ∧ Q .normal a w
  | fuel + 1, listed, a, w => (Region.ready md ops listed = [] → Q .normal a w) ∧
    ∀ i ∈ Region.ready md ops listed, wpOp P ops Q i (fun a' w' => ((listed.setIfInBounds i true).getD m true = false → S w') ∧ wpAnyL P md ops Q m S fuel (listed.setIfInBounds i true) a' w') a w

theorem wpAny_of_L : ∀ (fuel : Nat) (listed : Array Bool) (a : Act) (w : World), wpAnyL P md ops Q m S fuel listed a w → wpAny P md ops Q fuel listed a w
  | 0, _, _, _, h => h
  | fuel + 1, _, _, _, h => ⟨h.1, fun i hi => wpOp_mono (fun a' w' h' => wpAny_of_L fuel _ a' w' h'.2) (h.2 i hi)⟩

/-- Does number m wait for number i? -/
def waitsFor (md : Region.Mode) (ops : Array Oper) (m i : Nat) : Bool := match ops[m]? with
  | some o => o.after.any fun e => Region.binds md e && e.on == i
  | none => false
theorem waits_not_ready {i : Nat} {listed : Array Bool} (h : waitsFor md ops m i = true) (hi : listed.getD i true = false) : m ∉ Region.ready md ops listed := by
  intro hm
  obtain ⟨_, o, ho, hall⟩ := mem_ready.1 hm
  unfold waitsFor at h
  rw [ho] at h
  obtain ⟨e, he, hb⟩ := Array.any_eq_true'.1 h
  simp only [Bool.and_eq_true, beq_iff_eq] at hb
  have h2 := hall e he hb.1
  rw [hb.2] at h2
  rcases Nat.lt_or_ge i listed.size with h' | h'
  · simp [h'] at hi h2
    rw [hi] at h2
    cases h2
  · simp [Array.getElem?_eq_none h'] at h2

theorem wpAnyL_first {i : Nat} {oi : Oper} {v : Value} (hi : ops[i]? = some oi) (hwt : waitsFor md ops m i = true) (him : m ≠ i) (hsel : ∀ (j : Nat) (o : Oper) cs b, ops[j]? = some o → o.op ≠ .select cs b)
    (hQ : ∀ c a w, Q (.panic c) (a.put oi.dst v) w → Q (.panic c) a w) :
    ∀ (fuel : Nat) (listed : Array Bool) (a : Act) (w : World),
      (∀ j oj, ops[j]? = some oj → j ≠ i → listed.getD j true = false → (∀ e ∈ oj.after, Region.binds md e = true → e.on ≠ i) → oi.apart ops oj = true) →
      i ∈ Region.ready md ops listed → listed.getD m true = false → StillIf P ops S oi v a → S w →
      wpAnyL P md ops Q m S fuel (listed.setIfInBounds i true) (a.put oi.dst v) w → wpAnyL P md ops Q m S (fuel + 1) listed a w
  | 0, listed, a, w, _, hr, _, hy, hS, H => by
    refine ⟨fun h => (by rw [h] at hr; cases hr), fun j hj => ?_⟩
    by_cases hji : j = i
    · subst hji; exact hy.comes hi hS ⟨fun _ => hS, H⟩
    · have := ready_mono hj hji
      rw [H.1] at this
      cases this
  | fuel + 1, listed, a, w, hfree, hr, hml, hy, hS, H => by
    refine ⟨fun h => (by rw [h] at hr; cases hr), fun j hj => ?_⟩
    by_cases hji : j = i
    · subst hji; exact hy.comes hi hS ⟨fun _ => hS, H⟩
    have h1 := H.2 j (ready_mono hj hji)
    obtain ⟨hjun, oj, hoj, hall⟩ := mem_ready.1 hj
    have hun := (mem_ready.1 hr).1
    have hjm : j ≠ m := fun e => waits_not_ready hwt hun (e ▸ hj)
    have hnot : ∀ e ∈ oj.after, Region.binds md e = true → e.on ≠ i := by
      intro e he hb heq
      have h2 := hall e he hb
      rw [heq] at h2
      rcases Nat.lt_or_ge i listed.size with hlt | hge
      · simp [hlt] at hun h2
        rw [hun] at h2
        cases h2
      · simp [Array.getElem?_eq_none hge] at h2
    have hml' : (listed.setIfInBounds j true).getD m true = false := by rwa [getD_set_ne true hjm]
    have hml2 : ((listed.setIfInBounds i true).setIfInBounds j true).getD m true = false := by rwa [getD_set_ne true hjm, getD_set_ne true (Ne.symm him)]
    refine wpOp_mono (fun a' w' h3 => ⟨fun _ => h3.2.1 hml2, wpAnyL_first hi hwt him hsel hQ fuel (listed.setIfInBounds j true) a' w' ?_ (ready_mono hr (Ne.symm hji)) hml' h3.1 (h3.2.1 hml2) ?_⟩)
      (StillIf.past hoj (hfree j oj hoj hji hjun hnot) (fun cs b => hsel i oi cs b hi) (fun cs b => hsel j oj cs b hoj) hQ hy h1)
    · intro k ok hk hki hunk hno
      refine hfree k ok hk hki ?_ hno
      by_cases hjk : j = k
      · subst hjk; exact hjun
      · rwa [getD_set_ne true hjk] at hunk
    · rw [Array.setIfInBounds_comm _ _ hji]
      exact h3.2.2

/-- Number i is taken first: by itself (an operation) .. -/
theorem sink_take {i : Nat} {oi : Oper} {v : Value} {fuel : Nat} {listed : Array Bool} {a : Act} {w : World} (hi : ops[i]? = some oi) (hwt : waitsFor md ops m i = true) (him : m ≠ i) (hs : Region.noSelect ops = true) (hf : Region.free md ops listed i = true)
    (hr : (Region.ready md ops listed).contains i = true) (hml : listed.getD m true = false) (hQ : ∀ c a w, Q (.panic c) (a.put oi.dst v) w → Q (.panic c) a w) (hw : Region.wanted oi (yielded ops a.tmps) = true)
    (hv : ∀ w, S w → (execOp a.eval oi).run P w = .ok (.value v) w) (hS : S w)
    (h : wpAnyL P md ops Q m S fuel (listed.setIfInBounds i true) (a.put oi.dst v) w) : wpAnyL P md ops Q m S (fuel + 1) listed a w :=
  wpAnyL_first hi hwt him (Region.noSelect_spec hs) hQ fuel listed a w (Region.free_spec hi hf) (by simpa using hr) hml
    (.inl ⟨hw, fun w hSw => by unfold Oper.quietAt; rw [hv w hSw]; exact ⟨rfl, rfl⟩⟩) hS h
/-- .. by a call. -/
theorem sink_call {i : Nat} {oi : Oper} {v : Value} {fuel : Nat} {listed : Array Bool} {a : Act} {w : World} (hi : ops[i]? = some oi) (hwt : waitsFor md ops m i = true) (him : m ≠ i) (hs : Region.noSelect ops = true) (hf : Region.free md ops listed i = true)
    (hr : (Region.ready md ops listed).contains i = true) (hml : listed.getD m true = false) (hQ : ∀ c a w, Q (.panic c) (a.put oi.dst v) w → Q (.panic c) a w) (hw : Region.wanted oi (yielded ops a.tmps) = true)
    (hv : ∀ w, S w → oi.quietAt P a (fun w' => w = w') w v) (hS : S w)
    (h : wpAnyL P md ops Q m S fuel (listed.setIfInBounds i true) (a.put oi.dst v) w) : wpAnyL P md ops Q m S (fuel + 1) listed a w :=
  wpAnyL_first hi hwt him (Region.noSelect_spec hs) hQ fuel listed a w (Region.free_spec hi hf) (by simpa using hr) hml (.inl ⟨hw, hv⟩) hS h
/-- .. or it is not wanted. -/
theorem sink_skip {i : Nat} {oi : Oper} {fuel : Nat} {listed : Array Bool} {a : Act} {w : World} (hi : ops[i]? = some oi) (hwt : waitsFor md ops m i = true) (him : m ≠ i) (hs : Region.noSelect ops = true) (hf : Region.free md ops listed i = true)
    (hr : (Region.ready md ops listed).contains i = true) (hml : listed.getD m true = false) (hQ : ∀ c a w, Q (.panic c) (a.put oi.dst undef) w → Q (.panic c) a w) (hw : Region.wanted oi (yielded ops a.tmps) = false) (hS : S w)
    (h : wpAnyL P md ops Q m S fuel (listed.setIfInBounds i true) (a.put oi.dst undef) w) : wpAnyL P md ops Q m S (fuel + 1) listed a w :=
  wpAnyL_first hi hwt him (Region.noSelect_spec hs) hQ fuel listed a w (Region.free_spec hi hf) (by simpa using hr) hml (.inr ⟨hw, rfl⟩) hS h

/-- Each of these comes next. -/
def ReadyL (P : Program) (md : Region.Mode) (ops : Array Oper) (Q : Exit → Act → World → Prop) (m : Nat) (S : World → Prop) (fuel : Nat) (listed : Array Bool) (a : Act) (w : World) (rs : List Nat) : Prop :=
  ∀ i ∈ rs, wpOp P ops Q i (fun a' w' => ((listed.setIfInBounds i true).getD m true = false → S w') ∧ wpAnyL P md ops Q m S fuel (listed.setIfInBounds i true) a' w') a w
theorem sink_ready {rs : List Nat} {fuel : Nat} {listed : Array Bool} {a : Act} {w : World} (hr : Region.ready md ops listed = rs) (hne : rs ≠ [])
    (h : ReadyL P md ops Q m S fuel listed a w rs) : wpAnyL P md ops Q m S (fuel + 1) listed a w :=
  ⟨fun h0 => absurd (hr ▸ h0) hne, hr ▸ h⟩
theorem ReadyL.nil {fuel : Nat} {listed : Array Bool} {a : Act} {w : World} : ReadyL P md ops Q m S fuel listed a w [] := fun _ h => by cases h
/-- The way on, kept shut while an operation is run. -/
theorem ReadyL.cons {fuel : Nat} {listed : Array Bool} {a : Act} {w : World} {i : Nat} {o : Oper} {rs : List Nat} (ho : ops[i]? = some o)
    (h : ∀ K' : Act → World → Prop, Hid (∀ a w, S w → (S w → wpAnyL P md ops Q m S fuel (listed.setIfInBounds i true) a w) → K' a w) → if Region.wanted o (yielded ops a.tmps) = true then Oper.wp P o a w K' Q else K' (a.put o.dst undef) w)
    (hs : ReadyL P md ops Q m S fuel listed a w rs) : ReadyL P md ops Q m S fuel listed a w (i :: rs) := fun j hj => by
  rcases List.mem_cons.1 hj with rfl | hj
  · exact wpOp_step ho (fun K' hK => h K' (hide fun a w hS hW => hK a w ⟨fun _ => hS, hW hS⟩))
  · exact hs j hj
/-- The last. -/
theorem sink_last {fuel : Nat} {listed : Array Bool} {a : Act} {w : World} {o : Oper} (hr : Region.ready md ops listed = [m]) (ho : ops[m]? = some o) (hd : Region.ready md ops (listed.setIfInBounds m true) = []) (hl : listed.size = ops.size)
    (h : ∀ K' : Act → World → Prop, Hid (∀ a w, Q .normal a w → K' a w) → if Region.wanted o (yielded ops a.tmps) = true then Oper.wp P o a w K' Q else K' (a.put o.dst undef) w) : wpAnyL P md ops Q m S (fuel + 1) listed a w := by
  refine sink_ready hr (by simp) ?_
  intro j hj
  obtain rfl : j = m := by simpa using hj
  refine wpOp_step ho (fun K' hK => h K' (hide fun a w hq => hK a w ⟨fun e => ?_, ?_⟩))
  · have hlt := (Array.getElem?_eq_some_iff.1 ho).1
    rw [Array.getD_eq_getD_getElem?, Array.getElem?_setIfInBounds_self_of_lt (by rw [hl]; exact hlt)] at e
    cases e
  · cases fuel with
    | zero => exact ⟨hd, hq⟩
    | succ n => exact ⟨fun _ => hq, by rw [hd]; simp⟩
/-- The beginning. -/
theorem wp_region_sink (m : Nat) (S : World → Prop) {id : Nat} {a : Act} {w : World} (hm : P.follows .mixedOrders = true) (hS : S w.drew)
    (h : S w.drew → wpAnyL P .any ops Q m S ops.size (Array.replicate ops.size false) a w.drew) : (Code.region id ops true).wp P Q a w :=
  wp_region_any hm (wpAny_of_L _ _ _ _ (h hS))
end
/-- append as a step of a region that draws. -/
theorem step_append_u8 {w : World} {ops : Array Oper} {o : Oper} {a : Act} {K : Act → World → Prop} {Q : Exit → Act → World → Prop} {E : Prop} (hgd : o.guard = none) (s x : Operand)
    (ho : o.op = .call { callee := .builtin .append, args := #[s, x], argTypes := #[30, 30] })
    (base : Nat) (v : Value) (l : List B8) (hs : a.eval s = v) (hown : OwnB w base v l)
    (PB : Nat → Prop) (A : Option Addr) (m c : Nat) (news : List B8) (hx : a.eval x = .slice A m c) (hm : news.length = m) (hr : Rd w PB A (bs news))
    (hbytes : l.length + m ≤ 140737488355328) (hbase : base ≤ w.heap.size)
    (h : ∀ v' w', OwnB w' base v' (l ++ news) → w.grownBy w' v.ownBlock → (v'.ownBlock = v.ownBlock ∨ v'.ownBlock = some w.heap.size) → K (a.put o.dst v') w') : if Region.wanted o (yielded ops a.tmps) = true then Oper.wp Tryz.prog o a w K Q else E := by
  have hw : Region.wanted o (yielded ops a.tmps) = true := by simp [Region.wanted, hgd]
  rw [if_pos hw]
  subst hm
  obtain ⟨i0, hi0, hz0, hz1, hz2⟩ := info_parts u8_info
  obtain ⟨v', w', hrun, h2, h3, h4⟩ := run_append_rd (P := Tryz.prog) base 30 o.type 5 i0 (.int .u8 0) 1 1 Tryz.underlying30 hi0 hz0 hz1 hz2 rfl (by omega) v l.length (bs l) hown PB A news.length c (bs news) (by simp) hr (bs_one _)
    (by simp only [maxLen]; omega) (by omega) hbase
  unfold Oper.wp execOp
  simp only [ho, resolve, invoke, builtin, Sem.run_bind, Sem.run_pure, Result.andThen_ok, List.map_toArray, List.map_cons, List.map_nil, hs, hx, hrun]
  refine h _ _ ?_ h3 h4
  unfold OwnB
  rw [bs_append, List.length_append]
  exact h2

end Go.Proofs.YtdkcjmpikmnedaaGreat
