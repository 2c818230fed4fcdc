/- Regions that draw their order: a quiet call taken first; a class of worlds given as a family. -/
import Derived.OrdersHeld
import Derived.Deep.Quiet
import Derived.Below
import Derived.Tactics
import Derived.KernelRfl
namespace Go.Proofs.YtdkcjmpikmnedaaGreat
open Go.RowKit

section
variable {P : Program} {ops : Array Oper} {Q : Exit → Act → World → Prop} {md : Region.Mode} {S : World → Prop}

/-- In state 'a', in every world that meets S, the operation leaves 'v' and the world as it was: by itself, or by a call. -/
def StillIf (P : Program) (ops : Array Oper) (S : World → Prop) (o : Oper) (v : Value) (a : Act) : Prop :=
  (Region.wanted o (yielded ops a.tmps) = true ∧ ∀ w, S w → o.quietAt P a (fun w' => w = w') w v) ∨ (Region.wanted o (yielded ops a.tmps) = false ∧ v = undef)

theorem StillIf.same {o : Oper} {v : Value} {a a' : Act} (hy : StillIf P ops S o v a) (he : execOp a'.eval o = execOp a.eval o)
    (hw : Region.wanted o (yielded ops a'.tmps) = Region.wanted o (yielded ops a.tmps)) : StillIf P ops S o v a' := by
  unfold StillIf Oper.quietAt at *
  rwa [he, hw]

theorem StillIf.comes {i : Nat} {o : Oper} {v : Value} {a : Act} (hi : ops[i]? = some o) (hy : StillIf P ops S o v a) {K : Act → World → Prop} {w : World} (hS : S w) (h : K (a.put o.dst v) w) :
    wpOp P ops Q i K a w := by
  unfold Go.wpOp
  simp only [hi]
  rcases hy with ⟨hw, hv⟩ | ⟨hw, rfl⟩
  · rw [if_pos hw]
    exact .inl (Oper.wp_of_quiet (C := fun w' => w = w') (K := fun a' => K a' w) rfl (fun _ _ e hk => e ▸ hk) ⟨v, fun w0 e => e ▸ hv w hS, h⟩)
  · rw [if_neg (by simp [hw])]
    exact h

/-- Another operation, apart from it, does not care. -/
theorem StillIf.past {j : Nat} {oi oj : Oper} {v : Value} (hj : ops[j]? = some oj) (hap : oi.apart ops oj = true) (hsi : ∀ cs b, oi.op ≠ .select cs b) (hsj : ∀ cs b, oj.op ≠ .select cs b)
    (hQ : ∀ c a w, Q (.panic c) (a.put oi.dst v) w → Q (.panic c) a w) {K : Act → World → Prop} {a : Act} {w : World} (hy : StillIf P ops S oi v a) (h : wpOp P ops Q j K (a.put oi.dst v) w) :
    wpOp P ops Q j (fun a' w' => StillIf P ops S oi v a' ∧ K (a'.put oi.dst v) w') a w := by
  obtain ⟨h1, h2, h3⟩ := Oper.apart_spec hap
  have stays : ∀ b : Act, StillIf P ops S oi v b → ∀ u, StillIf P ops S oi v (b.put oj.dst u) := fun b hb u => hb.same (execOp_put oi hsi b oj.dst u h3) (wanted_put oi b oj.dst u h3)
  have swap : ∀ (b : Act) (u : Value) (w' : World), K ((b.put oi.dst v).put oj.dst u) w' → K ((b.put oj.dst u).put oi.dst v) w' := fun b u w' hk => by rwa [← Act.put_comm b v u h2]
  have hexec := execOp_put oj hsj a oi.dst v h1
  have hwant := wanted_put oj a oi.dst v h1
  unfold wpOp at *
  simp only [hj] at *
  rw [hwant] at h
  by_cases hw : Region.wanted oj (yielded ops a.tmps) = true
  · rw [if_pos hw] at h ⊢
    rcases h with h | ⟨hask, hlets⟩
    · refine .inl ?_
      unfold Oper.wp at *
      rw [hexec] at h
      generalize (execOp a.eval oj).run P w = r at *
      match r with
      | .ok (.value u) w' =>
        simp only [Oper.upon] at h ⊢
        exact ⟨stays a hy u, swap a u w' h⟩
      | .ok .skip w' =>
        simp only [Oper.upon] at h ⊢
        exact ⟨stays a hy undef, swap a undef w' h⟩
      | .ok (.defer d) w' =>
        simp only [Oper.upon] at h ⊢
        refine ⟨stays { a with defers := d :: a.defers } (hy.same rfl rfl) undef, swap { a with defers := d :: a.defers } undef w' ?_⟩
        rw [← Act.put_defers]
        exact h
      | .ok (.enter f args) w' =>
        simp only [Oper.upon] at h ⊢
        refine Calls.mono h fun e w'' he => ?_
        match e with
        | .returned u => exact ⟨stays a hy u, swap a u w'' he⟩
        | .panicked c => exact hQ _ _ _ he
        | .outgrown => exact he
      | .ok (.row rw args) w' =>
        simp only [Oper.upon] at h ⊢
        exact Rows.mono h fun u w'' he => ⟨stays a hy u, swap a u w'' he⟩
      | .halt x w' =>
        cases x <;> simp only [Oper.upon] at h ⊢
        case panic u => exact hQ _ _ _ h
    · exact .inr ⟨by unfold Oper.asks at *; rwa [hexec] at hask, hlets⟩
  · rw [if_neg hw] at h ⊢
    exact ⟨stays a hy undef, swap a undef w h⟩

/-- It may be taken first. -/
theorem wpAnyH_still {i : Nat} {oi : Oper} {v : Value} (hi : ops[i]? = some oi) (hsel : ∀ (j : Nat) (o : Oper) cs b, ops[j]? = some o → o.op ≠ .select cs b) (hQ : ∀ c a w, Q (.panic c) (a.put oi.dst v) w → Q (.panic c) a w) :
    ∀ (fuel : Nat) (listed : Array Bool) (a : Act) (w : World),
      (∀ j oj, ops[j]? = some oj → j ≠ i → listed.getD j true = false → (∀ e ∈ oj.after, Region.binds md e = true → e.on ≠ i) → oi.apart ops oj = true) →
      i ∈ Region.ready md ops listed → StillIf P ops S oi v a → S w →
      wpAnyH P md ops Q S fuel (listed.setIfInBounds i true) (a.put oi.dst v) w → wpAnyH P md ops Q S (fuel + 1) listed a w
  | 0, listed, a, w, _, hr, hy, hS, H => by
    refine ⟨fun h => (by rw [h] at hr; cases hr), fun j hj => ?_⟩
    by_cases hji : j = i
    · subst hji; exact hy.comes hi hS ⟨hS, H⟩
    · have := ready_mono hj hji
      rw [H.1] at this
      cases this
  | fuel + 1, listed, a, w, hfree, hr, hy, hS, H => by
    refine ⟨fun h => (by rw [h] at hr; cases hr), fun j hj => ?_⟩
    by_cases hji : j = i
    · subst hji; exact hy.comes hi hS ⟨hS, H⟩
    have h1 := H.2 j (ready_mono hj hji)
    obtain ⟨hjun, oj, hoj, hall⟩ := mem_ready.1 hj
    have hun := (mem_ready.1 hr).1
    have hnot : ∀ e ∈ oj.after, Region.binds md e = true → e.on ≠ i := by
      intro e he hb heq
      have h2 := hall e he hb
      rw [heq] at h2
      rcases Nat.lt_or_ge i listed.size with hlt | hge
      · simp [hlt] at hun h2
        rw [hun] at h2
        cases h2
      · simp [Array.getElem?_eq_none hge] at h2
    refine wpOp_mono (fun a' w' h3 => ⟨h3.2.1, wpAnyH_still hi hsel hQ fuel (listed.setIfInBounds j true) a' w' ?_ (ready_mono hr (Ne.symm hji)) h3.1 h3.2.1 ?_⟩)
      (StillIf.past hoj (hfree j oj hoj hji hjun hnot) (fun cs b => hsel i oi cs b hi) (fun cs b => hsel j oj cs b hoj) hQ hy h1)
    · intro k ok hk hki hunk hno
      refine hfree k ok hk hki ?_ hno
      by_cases hjk : j = k
      · subst hjk; exact hjun
      · rwa [getD_set_ne true hjk] at hunk
    · rw [Array.setIfInBounds_comm _ _ hji]
      exact h3.2.2

theorem wpAnyH_take_still {i : Nat} {oi : Oper} {v : Value} {fuel : Nat} {listed : Array Bool} {a : Act} {w : World} (hi : ops[i]? = some oi) (hs : Region.noSelect ops = true) (hf : Region.free md ops listed i = true)
    (hr : (Region.ready md ops listed).contains i = true) (hQ : ∀ c a w, Q (.panic c) (a.put oi.dst v) w → Q (.panic c) a w) (hy : StillIf P ops S oi v a) (hS : S w)
    (h : wpAnyH P md ops Q S fuel (listed.setIfInBounds i true) (a.put oi.dst v) w) : wpAnyH P md ops Q S (fuel + 1) listed a w :=
  wpAnyH_still hi (Region.noSelect_spec hs) hQ fuel listed a w (Region.free_spec hi hf) (by simpa using hr) hy hS h

/-- A quiet region walked in the order of its text, in a class of worlds that is given as a family. -/
theorem wp_region_fam {T : Type} (f : T → World) {id : Nat} {a : Act} {w : World} {l : List Oper} (hm : P.follows .mixedOrders = true) (hB : Region.lexB .any l.toArray = true) (h0 : ∃ x, w.drew = f x)
    (h : wpQuiet P l.toArray (fun w' => ∃ x, w' = f x) (fun a' => ∀ w', (∃ x, w' = f x) → Q .normal a' w') l a) : (Code.region id l.toArray true).wp P Q a w :=
  wp_region_quiet (C := fun w' => ∃ x, w' = f x) hm hB h0 (by simpa using h)
/-- The worlds that a number of calls may leave, none of which writes to what is old. -/
theorem below_fam (B : Nat) (w : World) : ∃ (T : Type) (f : T → World), Nonempty T ∧ (∀ x, Below B w (f x)) ∧ (∀ w', Below B w w' → ∃ x, w' = f x) :=
  ⟨{ x : World // Below B w x }, Subtype.val, ⟨⟨w, Below.refl _ _⟩⟩, fun x => x.2, fun w' h => ⟨⟨w', h⟩, rfl⟩⟩
end
end Go.Proofs.YtdkcjmpikmnedaaGreat
