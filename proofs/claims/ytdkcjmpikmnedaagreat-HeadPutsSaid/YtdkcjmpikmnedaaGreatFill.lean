/- A block of bytes known whole: what was written of it, and nothing behind. -/
import Derived.Test.YtdkcjmpikmnedaaGreatMem
import Derived.Lib.AppendStr
namespace Go.Proofs.YtdkcjmpikmnedaaGreat
open Go.RowKit

/-- Block g has cap bytes: l, then nothing but noughts. -/
def Fill (w : World) (g cap : Nat) (l : List B8) : Prop := l.length ≤ cap ∧ Blk w g 5 (bs (l ++ List.replicate (cap - l.length) 0#8)).toArray

section
variable {w w' : World} {g cap : Nat} {l : List B8}
theorem Fill.lt (h : Fill w g cap l) : g < w.heap.size := h.2.lt
theorem Fill.drew (h : Fill w g cap l) : Fill w.drew g cap l := h
theorem Fill.alloc (h : Fill w g cap l) (o : Obj) : Fill (w.alloc o) g cap l := ⟨h.1, h.2.alloc o⟩
theorem Fill.only {row : Option Nat} (h : Fill w g cap l) (hk : w.grownBy w' row) (hne : some g ≠ row) : Fill w' g cap l := ⟨h.1, h.2.grown hk hne⟩
theorem Fill.below {B : Nat} (h : Fill w g cap l) (hb : Below B w w') (hg : g < B) : Fill w' g cap l := ⟨h.1, h.2.below hb hg⟩
theorem Fill.rd (h : Fill w g cap l) {P : Nat → Prop} (hP : P g) : Rd w P (some ⟨g, 0, none⟩) (bs l) := Rd.of_blk h.2 hP 0 _ fun j hj => by
  have hj' : j < l.length := by simpa using hj
  rw [Nat.zero_add, List.getElem?_toArray, bs_append, List.getElem?_append_left hj]
theorem Fill.row (h : Fill w g cap l) (hc : cap ≤ maxLen) : RowB w g cap (l ++ List.replicate (cap - l.length) 0#8) := by
  have hl : (l ++ List.replicate (cap - l.length) 0#8).length = cap := by have := h.1; simp; omega
  have := RowB.of_blk h.2 (by rw [hl]; exact hc)
  rwa [hl] at this
theorem Fill.of_made (h : RowB w g cap (List.replicate cap 0#8)) : Fill w g cap [] := by
  refine ⟨Nat.zero_le _, ?_⟩
  have := h.blk (by simp)
  simpa using this
theorem fill_list (l news : List B8) (n cap : Nat) (hn : l.length = n) (hfit : n + news.length ≤ cap) :
    ((bs (l ++ List.replicate (cap - l.length) 0#8)).toArray.toList.take n ++ bs news ++ (bs (l ++ List.replicate (cap - l.length) 0#8)).toArray.toList.drop (n + news.length)).toArray =
      (bs ((l ++ news) ++ List.replicate (cap - (l ++ news).length) 0#8)).toArray := by
  subst hn
  congr 1
  rw [List.toList_toArray, ← bs_take, ← bs_drop, ← bs_append, ← bs_append, List.take_left, List.drop_append, List.drop_of_length_le (by omega), List.nil_append, List.drop_replicate, List.length_append]
  congr 3
  omega
end

theorem str_info : Tryz.prog.underlying 9 = some .string := by kernel_rfl

section
variable {w : World} {ops : Array Oper} {rest : List Oper} {o : Oper} {a : Act} {Q : Exit → Act → World → Prop}
theorem wpList_append_fill (hgd : o.guard = none) (s x : Operand)
    (ho : o.op = .call { callee := .builtin .append, args := #[s, x], argTypes := #[30, 30] })
    (g n cap : Nat) (l : List B8) (hs : a.eval s = .slice (some ⟨g, 0, none⟩) n cap) (hn : l.length = n) (hf : Fill w g cap l)
    (PB : Nat → Prop) (A : Option Addr) (m c : Nat) (news : List B8) (hx : a.eval x = .slice A m c) (hm : news.length = m) (hr : Rd w PB A (bs news)) (hfit : n + m ≤ cap)
    (h : ∀ w', Fill w' g cap (l ++ news) → w.grownBy w' (some g) → wpList Tryz.prog ops Q rest (a.put o.dst (.slice (some ⟨g, 0, none⟩) (n + m) cap)) w') : wpList Tryz.prog ops Q (o :: rest) a w := by
  subst hm
  obtain ⟨i0, hi0, hz0, hz1, hz2⟩ := info_parts u8_info
  refine wpList_plain hgd fun K hK => ?_
  rcases A with _ | ad
  · have hn0 : news = [] := by
      rcases Nat.eq_zero_or_pos news.length with h0 | h0
      · exact List.eq_nil_of_length_eq_zero h0
      · obtain ⟨_, _, hh, _⟩ := hr (by simpa using h0)
        cases hh
    subst hn0
    have hnc : n ≤ cap := by simpa using hfit
    have hrun : (Builtin.append_ #[30, 30] o.type #[.slice (some ⟨g, 0, none⟩) n cap, .slice none 0 c]).run Tryz.prog w = .ok (.slice (some ⟨g, 0, none⟩) n cap) w := by
      simp [Builtin.append_, run_underlying Tryz.underlying30, sizeOf, typeInfo, hi0, Builtin.lenOf, Builtin.firstCells, hnc, storeCells]
    unfold Oper.wp execOp
    simp only [ho, resolve, invoke, builtin, Sem.run_bind, Sem.run_pure, Result.andThen_ok, List.map_toArray, List.map_cons, List.map_nil, hs, hx, List.length_nil, hrun]
    exact hK _ _ (h w (by rw [List.append_nil]; exact hf) (World.grownBy.refl _ _))
  · have hrun := run_append_room (P := Tryz.prog) w 30 o.type 5 i0 Tryz.underlying30 hi0 g n cap _ hf.2 ad news.length c (bs news) (by rw [hz1]; simp) (rd_cells hr) (bs_one _) hfit (by rw [hz1]; have := hf.1; simp; omega)
    unfold Oper.wp execOp
    simp only [ho, resolve, invoke, builtin, Sem.run_bind, Sem.run_pure, Result.andThen_ok, List.map_toArray, List.map_cons, List.map_nil, hs, hx, hrun]
    refine hK _ _ (h _ ⟨by rw [List.length_append]; omega, ?_⟩ ⟨rfl, rfl, rfl, by simp, fun k _ hk => setRow_other w g k _ (fun e => hk (by simp [e]))⟩)
    rw [hz1, Nat.mul_one, bs_length, fill_list l news n cap hn hfit]
    exact setRow_heap w g _ _ _ _ hf.2
theorem wpList_append_fill_str (hgd : o.guard = none) (s x : Operand)
    (ho : o.op = .call { callee := .builtin .append, args := #[s, x], argTypes := #[30, 9] })
    (g n cap : Nat) (l : List B8) (hs : a.eval s = .slice (some ⟨g, 0, none⟩) n cap) (hn : l.length = n) (hf : Fill w g cap l)
    (st : ByteArray) (news : List B8) (hx : a.eval x = .string st) (hm : Lib.strCells st = bs news) (m : Nat) (hsz : m = st.size) (hfit : n + m ≤ cap)
    (h : ∀ w', Fill w' g cap (l ++ news) → w.grownBy w' (some g) → wpList Tryz.prog ops Q rest (a.put o.dst (.slice (some ⟨g, 0, none⟩) (n + m) cap)) w') : wpList Tryz.prog ops Q (o :: rest) a w := by
  subst hsz
  have hsl : st.size = news.length := by rw [← Lib.strCells_length, hm, bs_length]
  obtain ⟨i0, hi0, hz0, hz1, hz2⟩ := info_parts u8_info
  refine wpList_plain hgd fun K hK => ?_
  have hrun := Lib.run_append_room_string (P := Tryz.prog) w 30 9 o.type 5 i0 Tryz.underlying30 str_info hi0 hz1 g n cap _ hf.2 st hfit (by have := hf.1; simp; omega)
  unfold Oper.wp execOp
  simp only [ho, resolve, invoke, builtin, Sem.run_bind, Sem.run_pure, Result.andThen_ok, List.map_toArray, List.map_cons, List.map_nil, hs, hx, hrun]
  refine hK _ _ (h _ ⟨by rw [List.length_append]; omega, ?_⟩ ⟨rfl, rfl, rfl, by simp, fun k _ hk => setRow_other w g k _ (fun e => hk (by simp [e]))⟩)
  rw [hm, hsl, fill_list l news n cap hn (by omega)]
  exact setRow_heap w g _ _ _ _ hf.2
end
end Go.Proofs.YtdkcjmpikmnedaaGreat
