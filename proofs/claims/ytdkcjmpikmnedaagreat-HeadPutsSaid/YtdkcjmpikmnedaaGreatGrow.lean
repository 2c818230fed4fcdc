/- Rows of the call's own, of whatever element type: what an append does to them, said in two cases. -/
import Derived.Test.YtdkcjmpikmnedaaGreatMem
namespace Go.Proofs.YtdkcjmpikmnedaaGreat
open Go.RowKit
set_option linter.unusedSimpArgs false

/-- append: within the capacity, in place; or into a new block. -/
def Grew (e : TypeId) (size : Nat) (w w' : World) (v v' : Value) (n m : Nat) (xs ys : List Value) : Prop :=
  (∃ g cap, v = .slice (some ⟨g, 0, none⟩) n cap ∧ v' = .slice (some ⟨g, 0, none⟩) (n + m) cap ∧ w'.ownsRow 0 e size v' (n + m) (xs ++ ys) ∧ w.grownBy w' (some g)) ∨
  (w'.ownsRow w.heap.size e size v' (n + m) (xs ++ ys) ∧ w.grownBy w' none)

theorem own_base {w : World} {e : TypeId} {size : Nat} {v : Value} {n : Nat} {xs : List Value} {b b' : Nat} (h : w.ownsRow b e size v n xs) (hb : b' ≤ b) : w.ownsRow b' e size v n xs :=
  ⟨h.1, h.2.imp id fun ⟨g, cap, cur, hv, hg, r⟩ => ⟨g, cap, cur, hv, Nat.le_trans hb hg, r⟩⟩
theorem own_rebase {w : World} {e : TypeId} {size : Nat} {v : Value} {n : Nat} {xs : List Value} {b b' : Nat} (h : w.ownsRow b e size v n xs) (hb : ∀ g, v.ownBlock = some g → b' ≤ g) : w.ownsRow b' e size v n xs :=
  ⟨h.1, h.2.imp id fun ⟨g, cap, cur, hv, _, r⟩ => ⟨g, cap, cur, hv, hb g (by rw [hv]; rfl), r⟩⟩

section
variable {P : Program} {w : World}
theorem run_append_two (t ty e : TypeId) (i : TypeInfo) (z : Value) (size bytes : Nat) (ht : P.underlying t = some (.slice e)) (hi : P.info? e = some i) (hz : i.zero = some z) (hsize : i.size = size) (hby : i.bytes = bytes) (hzs : z.cells.size = size) (hsz : 0 < size) (hb1 : bytes ≤ 1024)
    (v : Value) (n : Nat) (xs : List Value) (hown : w.ownsRow 0 e size v n xs) (ad : Addr) (m c : Nat) (ys : List Value) (hl : ys.length = m * size) (hr : ∀ j u, ys[j]? = some u → w.cell? (ad.add j) = some u) (h1 : ∀ u ∈ ys, u.oneCell' = true) (hb : n + m ≤ 1048576) :
    ∃ v' w', (Builtin.append_ #[t, t] ty #[v, .slice (some ad) m c]).run P w = .ok v' w' ∧ Grew e size w w' v v' n m xs ys := by
  have hbytes : (n + m) * bytes ≤ 140737488355328 := by
    have := Nat.mul_le_mul hb hb1
    omega
  rcases hown.2 with ⟨rfl, rfl⟩ | ⟨g, cap, cur, rfl, _, hg, hnc, hcm, hcs, ht2⟩
  · have hx : xs = [] := List.eq_nil_of_length_eq_zero (by rw [hown.1]; simp)
    subst hx
    obtain ⟨v', w', hrun, h2, h3, _, _⟩ := run_append_own_at (P := P) w w.heap.size t ty e i z size bytes ht hi hz hsize hby hzs hsz (.slice none 0 0) 0 [] (World.ownsRow_nil _ _ _ _) ad m c ys hl hr h1 (by simp only [maxLen]; omega) hbytes (Nat.le_refl _)
    exact ⟨v', w', hrun, .inr ⟨h2, h3⟩⟩
  · by_cases hfit : n + m ≤ cap
    · obtain ⟨w', hrun, h2, h3⟩ := run_append_fits (P := P) (w := w) 0 t ty e i size ht hi hsize g n cap xs hown ad m c ys hl hr h1 hfit
      exact ⟨_, w', hrun, .inl ⟨g, cap, rfl, rfl, h2, h3⟩⟩
    · have holds : ∀ j u, xs[j]? = some u → w.cell? ((⟨g, 0, none⟩ : Addr).add j) = some u := fun j u hu => by
        have hj : j < n * size := by rw [← hown.1]; exact (List.getElem?_eq_some_iff.1 hu).1
        rw [Addr.add_lit, Nat.zero_add, World.ownsRow.cellAt hown j hj, hu]
      subst hsize hby
      have hge := grownCap_ge w (n + m) cap e
      have hcm2 : grownCap w (n + m) cap e ≤ maxLen := grownCap_le_maxLen w _ cap e (by simp only [maxLen]; omega)
      have hn2 : Builtin.nextslicecap (n + m) cap * i.bytes ≤ 281474976710656 := growslice_fits (by omega) hbytes
      have hrun := run_append_grow (P := P) w t ty e i z ht hi hz ⟨g, 0, none⟩ n cap xs hown.1 holds ad m c ys hl hr (by omega) (by omega) hn2
      refine ⟨_, _, hrun, .inr ⟨⟨by rw [List.length_append, hown.1, hl, Nat.add_mul], .inr ⟨w.heap.size, _, _, rfl, Nat.le_refl _, heap_alloc_new w.drew _, hge, hcm2, ?_, ?_⟩⟩, only_alloc (only_drew (only_refl _ _)) _⟩⟩
      · simp only [Array.size_append, List.size_toArray, size_zeroCells]
        rw [hown.1, hl, hzs, ← Nat.add_mul, ← Nat.add_mul]
        congr 1
        omega
      · simp only [Array.toList_append, List.append_assoc]
        rw [← List.append_assoc]
        have e2 : (xs ++ ys).length = (n + m) * i.size := by rw [List.length_append, hown.1, hl, Nat.add_mul]
        rw [← e2]
        exact List.take_left
end

section
variable {P : Program} {w : World} {ops : Array Oper} {rest : List Oper} {o : Oper} {a : Act} {Q : Exit → Act → World → Prop}
theorem wpList_append_two (hgd : o.guard = none) (s x : Operand) (t : TypeId) (ho : o.op = .call { callee := .builtin .append, args := #[s, x], argTypes := #[t, t] })
    (e : TypeId) (i : TypeInfo) (z : Value) (size bytes : Nat) (ht : P.underlying t = some (.slice e)) (hi : P.info? e = some i) (hz : i.zero = some z) (hsize : i.size = size) (hby : i.bytes = bytes) (hzs : z.cells.size = size) (hsz : 0 < size) (hb1 : bytes ≤ 1024)
    (v : Value) (n : Nat) (xs : List Value) (hs : a.eval s = v) (hown : w.ownsRow 0 e size v n xs) (ad : Addr) (m c : Nat) (ys : List Value) (hx : a.eval x = .slice (some ad) m c) (hl : ys.length = m * size) (hr : ∀ j u, ys[j]? = some u → w.cell? (ad.add j) = some u) (h1 : ∀ u ∈ ys, u.oneCell' = true) (hb : n + m ≤ 1048576)
    (h : ∀ v' w', Grew e size w w' v v' n m xs ys → wpList P ops Q rest (a.put o.dst v') w') : wpList P ops Q (o :: rest) a w := by
  refine wpList_plain hgd fun K hK => ?_
  obtain ⟨v', w', hrun, G⟩ := run_append_two (P := P) (w := w) t o.type e i z size bytes ht hi hz hsize hby hzs hsz hb1 v n xs hown ad m c ys hl hr h1 hb
  unfold Oper.wp execOp
  simp only [ho, resolve, invoke, builtin, Sem.run_bind, Sem.run_pure, Result.andThen_ok, List.map_toArray, List.map_cons, List.map_nil, hs, hx, hrun]
  exact hK _ _ (h v' w' G)
/-- The same as a step of a region that draws. -/
theorem step_append_two {K : Act → World → Prop} {E : Prop} (hgd : o.guard = none) (s x : Operand) (t : TypeId) (ho : o.op = .call { callee := .builtin .append, args := #[s, x], argTypes := #[t, t] })
    (e : TypeId) (i : TypeInfo) (z : Value) (size bytes : Nat) (ht : P.underlying t = some (.slice e)) (hi : P.info? e = some i) (hz : i.zero = some z) (hsize : i.size = size) (hby : i.bytes = bytes) (hzs : z.cells.size = size) (hsz : 0 < size) (hb1 : bytes ≤ 1024)
    (v : Value) (n : Nat) (xs : List Value) (hs : a.eval s = v) (hown : w.ownsRow 0 e size v n xs) (ad : Addr) (m c : Nat) (ys : List Value) (hx : a.eval x = .slice (some ad) m c) (hl : ys.length = m * size) (hr : ∀ j u, ys[j]? = some u → w.cell? (ad.add j) = some u) (h1 : ∀ u ∈ ys, u.oneCell' = true) (hb : n + m ≤ 1048576)
    (h : ∀ v' w', Grew e size w w' v v' n m xs ys → K (a.put o.dst v') w') : if Region.wanted o (yielded ops a.tmps) = true then Oper.wp P o a w K Q else E := by
  have hw : Region.wanted o (yielded ops a.tmps) = true := by simp [Region.wanted, hgd]
  rw [if_pos hw]
  obtain ⟨v', w', hrun, G⟩ := run_append_two (P := P) (w := w) t o.type e i z size bytes ht hi hz hsize hby hzs hsz hb1 v n xs hown ad m c ys hl hr h1 hb
  unfold Oper.wp execOp
  simp only [ho, resolve, invoke, builtin, Sem.run_bind, Sem.run_pure, Result.andThen_ok, List.map_toArray, List.map_cons, List.map_nil, hs, hx, hrun]
  exact h v' w' G
end

section
variable {e : TypeId} {size : Nat} {w w' : World} {v v' u : Value} {n m k : Nat} {xs ys zs : List Value}
theorem Grew.own (h : Grew e size w w' v v' n m xs ys) : w'.ownsRow 0 e size v' (n + m) (xs ++ ys) := by
  rcases h with ⟨g, cap, _, _, h, _⟩ | ⟨h, _⟩
  · exact h
  · exact own_base h (Nat.zero_le _)
theorem Grew.szle (h : Grew e size w w' v v' n m xs ys) : w.heap.size ≤ w'.heap.size := by
  rcases h with ⟨_, _, _, _, _, g⟩ | ⟨_, g⟩ <;> exact g.size
/-- Whose the new row is. -/
theorem Grew.home (h : Grew e size w w' v v' n m xs ys) : ∀ b, v'.ownBlock = some b → v.ownBlock = some b ∨ w.heap.size ≤ b := by
  intro b hb
  rcases h with ⟨g, cap, rfl, rfl, _, _⟩ | ⟨h, _⟩
  · exact .inl hb
  · exact .inr (h.lt b hb).1
theorem Grew.grown (h : Grew e size w w' v v' n m xs ys) : w.grownBy w' v.ownBlock := by
  rcases h with ⟨g, cap, rfl, rfl, _, h⟩ | ⟨_, h⟩
  · exact h
  · exact ⟨h.os, h.tape, h.output, h.size, fun b hb _ => h.block b hb (by simp)⟩
/-- A row that is the head of the one that has grown, or that lies elsewhere, stands. -/
theorem Grew.keep (h : Grew e size w w' v v' n m xs ys) (hv : w.ownsRow 0 e size v n xs) (hu : w.ownsRow 0 e size u k zs) (hk : k ≤ n) (hz : zs = xs.take (k * size)) : w'.ownsRow 0 e size u k zs := by
  refine ⟨hu.1, ?_⟩
  rcases hu.2 with h0 | ⟨g, cap, cur, rfl, hg0, hg, hkc, hcm, hcs, ht⟩
  · exact .inl h0
  · refine .inr ⟨g, cap, ?_⟩
    rcases h with ⟨g', cap', rfl, rfl, ho, gr⟩ | ⟨_, gr⟩
    · by_cases hgg : g = g'
      · subst hgg
        rcases hv.2 with ⟨h1, _⟩ | ⟨g1, cap1, cur1, h1, _, hg1, _, _, hcs1, _⟩
        · simp at h1
        simp only [Value.slice.injEq, Option.some.injEq, Addr.mk.injEq, and_true, true_and] at h1
        obtain ⟨rfl, rfl⟩ := h1
        rw [hg] at hg1
        injection hg1 with hg1
        injection hg1 with hg1 _ _
        subst hg1
        rcases ho.2 with ⟨h1, _⟩ | ⟨g1, cap1, cur1, h1, _, hg2, _, _, hcs2, ht2⟩
        · simp at h1
        simp only [Value.slice.injEq, Option.some.injEq, Addr.mk.injEq, and_true, true_and] at h1
        obtain ⟨rfl, rfl⟩ := h1
        refine ⟨cur1, rfl, hg0, hg2, hkc, hcm, ?_, ?_⟩
        · rw [hcs2, ← hcs1, hcs]
        · have hle : k * size ≤ n * size := Nat.mul_le_mul_right _ hk
          have e1 : cur1.toList.take (k * size) = ((cur1.toList.take ((n + m) * size))).take (k * size) := by
            rw [List.take_take, Nat.min_eq_left (Nat.le_trans hle (Nat.mul_le_mul_right _ (Nat.le_add_right _ _)))]
          rw [e1, ht2, hz, List.take_append_of_le_length (by rw [hv.1]; exact hle)]
      · exact ⟨cur, rfl, hg0, (gr.block g (Array.getElem?_eq_some_iff.1 hg).1 (by simpa using hgg)).trans hg, hkc, hcm, hcs, ht⟩
    · exact ⟨cur, rfl, hg0, (gr.block g (Array.getElem?_eq_some_iff.1 hg).1 (by simp)).trans hg, hkc, hcm, hcs, ht⟩
end
end Go.Proofs.YtdkcjmpikmnedaaGreat
