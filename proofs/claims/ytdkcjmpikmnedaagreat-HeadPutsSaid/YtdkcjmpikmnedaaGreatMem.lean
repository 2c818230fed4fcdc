/- Words on memory: a slice that reads as a row, a block known whole, what a call leaves. -/
import Derived.Test.YtdkcjmpikmnedaaGreatBits
import Derived.Maps.AppendAt
import Derived.Laws.CopyOwn
import Derived.Deep.AppendLies
import Derived.Deep.QuietTactic
import Derived.BigQuiet
namespace Go.Proofs.YtdkcjmpikmnedaaGreat
open Go.RowKit

theorem take_snoc {α : Type} (l : List α) (k : Nat) (h : k < l.length) : l.take (k + 1) = l.take k ++ [l[k]] := List.take_succ_eq_append_getElem h
/-- Bytes as cells. -/
def bs (l : List B8) : List Value := l.map fun c => .int .u8 (c.toNat : Int)
@[simp] theorem bs_length (l : List B8) : (bs l).length = l.length := by simp [bs]
theorem bs_append (l m : List B8) : bs (l ++ m) = bs l ++ bs m := by simp [bs]
theorem bs_get (l : List B8) (k : Nat) (h : k < (bs l).length) : (bs l)[k] = .int .u8 ((l[k]'(by simpa using h)).toNat : Int) := by simp [bs]
theorem bs_take (l : List B8) (k : Nat) : bs (l.take k) = (bs l).take k := by simp [bs]
theorem bs_drop (l : List B8) (k : Nat) : bs (l.drop k) = (bs l).drop k := by simp [bs]
theorem bs_inj {l m : List B8} (h : bs l = bs m) : l = m := by
  unfold bs at h
  refine List.map_inj_right (fun x y e => ?_) |>.1 h
  injection e with _ e
  exact BitVec.eq_of_toNat_eq (by omega)

/-- The slice at A reads as the cells xs in w, in a block of which P holds; of an empty one nothing is said. -/
def Rd (w : World) (P : Nat → Prop) (A : Option Addr) (xs : List Value) : Prop :=
  0 < xs.length → ∃ b off, A = some ⟨b, off, none⟩ ∧ P b ∧ ∀ (j : Nat) (h : j < xs.length), w.cell? ⟨b, off + j, none⟩ = some xs[j]

section
variable {w w' : World} {P Q : Nat → Prop} {A : Option Addr} {xs : List Value}
theorem Rd.nil : Rd w P A [] := fun h => absurd h (by simp)
theorem Rd.imp (h : Rd w P A xs) (hPQ : ∀ b, b < w.heap.size → P b → Q b) : Rd w Q A xs := fun h0 => by
  obtain ⟨b, off, hA, hb, hc⟩ := h h0
  exact ⟨b, off, hA, hPQ b (World.block_lt_of_cell? w _ (hc 0 h0)) hb, hc⟩
theorem Rd.keep (h : Rd w P A xs) (hk : ∀ b, b < w.heap.size → P b → w'.heap[b]? = w.heap[b]?) : Rd w' P A xs := fun h0 => by
  obtain ⟨b, off, hA, hb, hc⟩ := h h0
  exact ⟨b, off, hA, hb, fun j hj => (World.cell?_of_block (hk b (World.block_lt_of_cell? w _ (hc 0 h0)) hb)).trans (hc j hj)⟩
theorem Rd.only {row : Option Nat} (h : Rd w P A xs) (hk : w.grownBy w' row) (hP : ∀ b, P b → some b ≠ row) : Rd w' P A xs := h.keep fun b hb hPb => hk.block b hb (hP b hPb)
theorem Rd.below {B : Nat} (h : Rd w P A xs) (hk : Below B w w') (hP : ∀ b, b < w.heap.size → P b → b < B) : Rd w' P A xs := h.keep fun b hb hPb => hk.block b (hP b hb hPb)
/-- What was read before a call that writes to nothing old: it reads so still, in an old block. -/
theorem Rd.old (h : Rd w P A xs) (hk : Below w.heap.size w w') : Rd w' (fun b => P b ∧ b < w.heap.size) A xs :=
  (h.imp (Q := fun b => P b ∧ b < w.heap.size) fun _ hb hP => ⟨hP, hb⟩).below hk fun _ hb _ => hb
theorem Rd.drew (h : Rd w P A xs) : Rd w.drew P A xs := h
theorem Rd.drewN (h : Rd w P A xs) (n : Nat) : Rd (w.drewN n) P A xs := h
theorem Rd.take (h : Rd w P A xs) (k : Nat) : Rd w P A (xs.take k) := fun h0 => by
  have hl : (xs.take k).length ≤ xs.length := by rw [List.length_take]; omega
  obtain ⟨b, off, hA, hb, hc⟩ := h (by omega)
  exact ⟨b, off, hA, hb, fun j hj => by rw [hc j (by omega), List.getElem_take]⟩
/-- 's[q:]', in the walk's own spelling. -/
theorem Rd.cut (h : Rd w P A xs) (q c : Nat) (hc : xs.length ≤ c) : Rd w P (if c = q then A else Option.map (fun x => x.add q) A) (xs.drop q) := fun h0 => by
  have hq : q < xs.length := by rw [List.length_drop] at h0; omega
  obtain ⟨b, off, rfl, hb, hcell⟩ := h (by omega)
  rw [if_neg (by omega)]
  refine ⟨b, off + q, by rw [Option.map_some, Addr.add_lit], hb, fun j hj => ?_⟩
  rw [Nat.add_assoc, hcell (q + j) (by rw [List.length_drop] at hj; omega), List.getElem_drop]
theorem Rd.of_own {base : Nat} {e : TypeId} {n c : Nat} (h : w.ownsRow base e 1 (.slice A n c) n xs) (hP : ∀ g, base ≤ g → g < w.heap.size → A = some ⟨g, 0, none⟩ → P g) : Rd w P A xs := fun h0 => by
  rcases h.2 with ⟨hv, hn⟩ | ⟨g, cap, cur, hv, hb, hg, _, _, hcs, ht⟩
  · have := h.1; omega
  · injection hv with hA hl hc
    subst hA
    refine ⟨g, 0, rfl, hP g hb (Array.getElem?_eq_some_iff.1 hg).1 rfl, fun j hj => ?_⟩
    have hl := h.1
    have e1 : xs[j]? = cur.toList[j]? := by rw [← ht, List.getElem?_take, if_pos (by omega)]
    rw [Nat.zero_add, cell_of_row w g j cur e (0, 0) hg, ← Array.getElem?_toList, ← e1, List.getElem?_eq_getElem hj]
end

theorem drewN_heap (w : World) (n : Nat) : (w.drewN n).heap = w.heap := rfl
theorem drewN_below (B : Nat) (w : World) (n : Nat) : Below B w (w.drewN n) := ⟨rfl, rfl, rfl, Nat.le_refl _, fun _ _ => rfl⟩

/-- Block g of w is just the cells cs, of element type t, none frozen. -/
def Blk (w : World) (g : Nat) (t : TypeId) (cs : Array Value) : Prop := w.heap[g]? = some (.cells cs t (0, 0))

section
variable {w w' : World} {g : Nat} {t : TypeId} {cs : Array Value}
theorem Blk.lt (h : Blk w g t cs) : g < w.heap.size := by
  rcases Nat.lt_or_ge g w.heap.size with hlt | hge
  · exact hlt
  · unfold Blk at h; rw [Array.getElem?_eq_none hge] at h; cases h
theorem Blk.cell (h : Blk w g t cs) (i : Nat) : w.cell? ⟨g, i, none⟩ = cs[i]? := cell_of_row w g i cs t (0, 0) h
theorem Blk.frozen (h : Blk w g t cs) (i : Nat) : w.frozen? ⟨g, i, none⟩ = false := by
  unfold Blk at h
  simp [World.frozen?, h]
theorem Blk.new (w : World) (t : TypeId) (cs : Array Value) : Blk (w.alloc (.cells cs t)) w.heap.size t cs := heap_alloc_new w _
theorem Blk.drew (h : Blk w g t cs) : Blk w.drew g t cs := h
theorem Blk.drewN (h : Blk w g t cs) (n : Nat) : Blk (w.drewN n) g t cs := h
theorem Blk.alloc (h : Blk w g t cs) (o : Obj) : Blk (w.alloc o) g t cs := (Below.heap_alloc w o g h.lt).trans h
theorem Blk.set_ (h : Blk w g t cs) (i : Nat) (u : Value) : Blk (w.setCell ⟨g, i, none⟩ u) g t (cs.setIfInBounds i u) := by
  unfold Blk at h ⊢
  simp [World.setCell, Array.getElem?_modify, h]
theorem Blk.far (h : Blk w g t cs) {p : Addr} (hp : g ≠ p.block) (u : Value) : Blk (w.setCell p u) g t cs := (Below.heap_setCell w p u g hp).trans h
theorem Blk.below {B : Nat} (h : Blk w g t cs) (hb : Below B w w') (hg : g < B) : Blk w' g t cs := (hb.block g hg).trans h
theorem Blk.grown {row : Option Nat} (h : Blk w g t cs) (hb : w.grownBy w' row) (hg : some g ≠ row) : Blk w' g t cs := (hb.block g h.lt hg).trans h
end

/-! ### What a call leaves: only block g, and what is new, may have turned. -/
theorem only_refl (w : World) (row : Option Nat) : w.grownBy w row := ⟨rfl, rfl, rfl, Nat.le_refl _, fun _ _ _ => rfl⟩
theorem only_trans {a b c : World} {row : Option Nat} (h : a.grownBy b row) (k : b.grownBy c row) : a.grownBy c row :=
  ⟨k.os.trans h.os, k.tape.trans h.tape, k.output.trans h.output, Nat.le_trans h.size k.size, fun i hi hne => (k.block i (Nat.lt_of_lt_of_le hi h.size) hne).trans (h.block i hi hne)⟩
theorem only_drewN {a w : World} {row : Option Nat} (h : a.grownBy w row) (n : Nat) : a.grownBy (w.drewN n) row := ⟨h.os, h.tape, h.output, h.size, h.block⟩
theorem only_drew {a w : World} {row : Option Nat} (h : a.grownBy w row) : a.grownBy w.drew row := ⟨h.os, h.tape, h.output, h.size, h.block⟩
theorem only_alloc {a w : World} {row : Option Nat} (h : a.grownBy w row) (o : Obj) : a.grownBy (w.alloc o) row :=
  ⟨h.os, h.tape, h.output, Nat.le_trans h.size (by simp), fun i hi hne => (Below.heap_alloc w o i (Nat.lt_of_lt_of_le hi h.size)).trans (h.block i hi hne)⟩
theorem only_setCell {a w : World} {g : Nat} (h : a.grownBy w (some g)) {p : Addr} (hp : p.block = g ∨ a.heap.size ≤ p.block) (u : Value) : a.grownBy (w.setCell p u) (some g) :=
  ⟨h.os, h.tape, h.output, by simpa [World.setCell] using h.size, fun i hi hne => (Below.heap_setCell w p u i (by
    rintro rfl
    rcases hp with hp | hp
    · exact hne (by rw [hp])
    · omega)).trans (h.block i hi hne)⟩
theorem only_of_below {a w : World} (h : Below a.heap.size a w) (row : Option Nat) : a.grownBy w row := ⟨h.os, h.tape, h.output, h.size, fun i hi _ => h.block i hi⟩
/-- Writes to one block are below any number up to it. -/
theorem below_of_only {a w : World} {g B : Nat} (h : a.grownBy w (some g)) (hB : B ≤ g) (hBa : B ≤ a.heap.size) : Below B a w :=
  ⟨h.os, h.tape, h.output, h.size, fun k hk => h.block k (by omega) (by simp; omega)⟩
theorem below_of_none {a w : World} (h : a.grownBy w none) : Below a.heap.size a w :=
  ⟨h.os, h.tape, h.output, h.size, fun k hk => h.block k hk (by simp)⟩

/-! ### A quiet call whose contract says 'w = w''. -/
theorem quiet_left {P : Program} {f : FuncId} {args : Array Value} {w : World} {n : Nat} {v : Value}
    (h : Calls P f args (w.drewN n) fun e w' => e = .returned v ∧ w.drewN n = w') : Calls P f args (w.drewN n) fun e w'' => e = .returned v ∧ ∃ m, w'' = w.drewN m :=
  h.mono fun _ _ ⟨he, hm⟩ => ⟨he, n, hm.symm⟩
theorem quiet_add_left {P : Program} {f : FuncId} {args : Array Value} {w : World} {a n : Nat} {v : Value}
    (h : Calls P f args (w.drewN (a + n)) fun e w' => e = .returned v ∧ w.drewN (a + n) = w') :
    Calls P f args (w.drewN (a + n)) fun e w'' => e = .returned v ∧ ∃ m, w'' = w.drewN (a + m) :=
  h.mono fun _ _ ⟨he, hm⟩ => ⟨he, n, hm.symm⟩

/-- Only draws lie between the two worlds. -/
def Drew (w w' : World) : Prop := ∃ n, w' = w.drewN n
theorem Drew.refl (w : World) : Drew w w := ⟨0, rfl⟩
theorem Drew.more {w w' : World} (h : Drew w w') (n : Nat) : Drew w (w'.drewN n) := by
  obtain ⟨m, rfl⟩ := h
  exact ⟨m + n, World.drewN_drewN _ _ _⟩
theorem Drew.one {w w' : World} (h : Drew w w') : Drew w w'.drew := h.more 1
theorem Drew.trans {a b c : World} (h : Drew a b) (k : Drew b c) : Drew a c := by
  obtain ⟨m, rfl⟩ := k
  exact h.more m
theorem Drew.heap {w w' : World} (h : Drew w w') : w'.heap = w.heap := by obtain ⟨n, rfl⟩ := h; exact drewN_heap w n
theorem Drew.cell {w w' : World} (h : Drew w w') (a : Addr) : w'.cell? a = w.cell? a := by unfold World.cell?; rw [h.heap]
theorem Drew.below {w w' : World} (h : Drew w w') (B : Nat) : Below B w w' := by
  obtain ⟨n, rfl⟩ := h
  exact drewN_below B w n
theorem Drew.rd {w w' : World} {P : Nat → Prop} {A : Option Addr} {xs : List Value} (h : Drew w w') (hr : Rd w P A xs) : Rd w' P A xs := by
  obtain ⟨n, rfl⟩ := h
  exact hr.drewN n
theorem Drew.blk {w w' : World} {g : Nat} {t : TypeId} {cs : Array Value} (h : Drew w w') (hb : Blk w g t cs) : Blk w' g t cs := by
  obtain ⟨n, rfl⟩ := h
  exact hb.drewN n

/-- An operation whose guard says yes is as one without a guard. -/
theorem wpList_unguard {P : Program} {ops : Array Oper} {Q : Exit → Act → World → Prop} {rest : List Oper} {o : Oper} {a : Act} {w : World} (hw : Region.wanted o (yielded ops a.tmps) = true)
    (h : wpList P ops Q ({ o with guard := none } :: rest) a w) : wpList P ops Q (o :: rest) a w := by
  unfold wpList at h ⊢
  rw [if_pos hw]
  rw [if_pos (by simp [Region.wanted])] at h
  exact h

/-! ### Where the walk is to stand still: a call of append, of copy, a make. -/
def Stopped (p : Prop) : Prop := p
section
variable {P : Program} {ops : Array Oper} {Q : Exit → Act → World → Prop} {rest : List Oper} {a : Act} {w : World} {d : Option Tmp} {args : Array Operand} {ts : Array TypeId} {ty : TypeId} {pos : String} {after : Array Edge} {g : Option (Nat × Bool)}
theorem stop_append (h : Stopped (wpList P ops Q ({ dst := d, op := .call { callee := .builtin .append, args := args, argTypes := ts }, type := ty, pos := pos, after := after, guard := g } :: rest) a w)) :
    wpList P ops Q ({ dst := d, op := .call { callee := .builtin .append, args := args, argTypes := ts }, type := ty, pos := pos, after := after, guard := g } :: rest) a w := h
theorem stop_copy (h : Stopped (wpList P ops Q ({ dst := d, op := .call { callee := .builtin .copy, args := args, argTypes := ts }, type := ty, pos := pos, after := after, guard := g } :: rest) a w)) :
    wpList P ops Q ({ dst := d, op := .call { callee := .builtin .copy, args := args, argTypes := ts }, type := ty, pos := pos, after := after, guard := g } :: rest) a w := h
theorem stop_make {t : TypeId} {l c : Operand} (h : Stopped (wpList P ops Q ({ dst := d, op := .makeSlice t l c, type := ty, pos := pos, after := after, guard := g } :: rest) a w)) :
    wpList P ops Q ({ dst := d, op := .makeSlice t l c, type := ty, pos := pos, after := after, guard := g } :: rest) a w := h
end

theorem rd_new (w : World) (t : TypeId) (xs : List Value) (P : Nat → Prop) (h : P w.heap.size) : Rd (w.alloc (.cells xs.toArray t)) P (some ⟨w.heap.size, 0, none⟩) xs := fun _ =>
  ⟨w.heap.size, 0, rfl, h, fun j hj => by
    rw [Nat.zero_add, (Blk.new w t xs.toArray).cell j]
    simp [hj]⟩
theorem Rd.of_blk {w : World} {g : Nat} {t : TypeId} {cs : Array Value} {P : Nat → Prop} (hb : Blk w g t cs) (hP : P g) (off : Nat) (xs : List Value) (h : ∀ j, j < xs.length → cs[off + j]? = xs[j]?) : Rd w P (some ⟨g, off, none⟩) xs := fun _ =>
  ⟨g, off, rfl, hP, fun j hj => by rw [hb.cell, h j hj, List.getElem?_eq_getElem hj]⟩

/-- A row that has just been laid, whatever is frozen of it. -/
theorem rd_alloc (w : World) (t : TypeId) (C : Array Value) (fr : Nat × Nat) (xs : List Value) (h : C = xs.toArray) (P : Nat → Prop) (hP : P w.heap.size) : Rd (w.alloc (.cells C t fr)) P (some ⟨w.heap.size, 0, none⟩) xs := fun _ =>
  ⟨w.heap.size, 0, rfl, hP, fun j hj => by
    subst h
    rw [Nat.zero_add, cell_of_row _ w.heap.size j xs.toArray t fr (heap_alloc_new w _)]
    simp [hj]⟩

section
variable {P : Program} {w : World}
theorem run_append_of_nil (base : Nat) (t ty e : TypeId) (i : TypeInfo) (size : Nat) (ht : P.underlying t = some (.slice e)) (hi : P.info? e = some i)
    (v : Value) (n : Nat) (xs : List Value) (hown : w.ownsRow base e size v n xs) (c : Nat) : (Builtin.append_ #[t, t] ty #[v, .slice none 0 c]).run P w = .ok v w := by
  rcases hown.2 with ⟨rfl, rfl⟩ | ⟨g, cap, cur, rfl, _, _, hnc, _⟩
  · simp [Builtin.append_, run_underlying ht, sizeOf, typeInfo, hi, Builtin.lenOf, Builtin.firstCells]
  · simp [Builtin.append_, run_underlying ht, sizeOf, typeInfo, hi, Builtin.lenOf, Builtin.firstCells, hnc, storeCells]

theorem rd_cells {PB : Nat → Prop} {ad : Addr} {news : List Value} (hr : Rd w PB (some ad) news) : ∀ j u, news[j]? = some u → w.cell? (ad.add j) = some u := by
  intro j u hu
  obtain ⟨hj, rfl⟩ := List.getElem?_eq_some_iff.1 hu
  obtain ⟨b, off, hA, _, hc⟩ := hr (by omega)
  injection hA with hA
  subst hA
  rw [Addr.add_lit]
  exact hc j hj

theorem run_append_rd (base : Nat) (t ty e : TypeId) (i : TypeInfo) (z : Value) (size bytes : Nat) (ht : P.underlying t = some (.slice e)) (hi : P.info? e = some i) (hz : i.zero = some z)
    (hsize : i.size = size) (hby : i.bytes = bytes) (hzs : z.cells.size = size) (hsz : 0 < size)
    (v : Value) (n : Nat) (xs : List Value) (hown : w.ownsRow base e size v n xs)
    (PB : Nat → Prop) (A : Option Addr) (m c : Nat) (news : List Value) (hl : news.length = m * size) (hr : Rd w PB A news) (h1 : ∀ u ∈ news, u.oneCell' = true)
    (h63 : n + m ≤ maxLen) (hbytes : (n + m) * bytes ≤ 140737488355328) (hbase : base ≤ w.heap.size) :
    ∃ v' w', (Builtin.append_ #[t, t] ty #[v, .slice A m c]).run P w = .ok v' w' ∧ w'.ownsRow base e size v' (n + m) (xs ++ news) ∧ w.grownBy w' v.ownBlock ∧
      (v'.ownBlock = v.ownBlock ∨ v'.ownBlock = some w.heap.size) := by
  rcases A with _ | ad
  · have hm : m = 0 := by
      rcases Nat.eq_zero_or_pos m with h0 | h0
      · exact h0
      · obtain ⟨_, _, h, _⟩ := hr (by rw [hl]; exact Nat.mul_pos h0 hsz)
        cases h
    subst hm
    have hn : news = [] := List.eq_nil_of_length_eq_zero (by simpa using hl)
    subst hn
    exact ⟨v, w, run_append_of_nil base t ty e i size ht hi v n xs hown c, by simpa using hown, World.grownBy.refl w _, .inl rfl⟩
  · obtain ⟨v', w', hrun, h2, h3, _, h5⟩ := run_append_own_at (P := P) w base t ty e i z size bytes ht hi hz hsize hby hzs hsz v n xs hown ad m c news hl (rd_cells hr) h1 h63 hbytes hbase
    exact ⟨v', w', hrun, h2, h3, h5⟩

theorem wpList_append_rd {ops : Array Oper} {rest : List Oper} {o : Oper} {a : Act} {Q : Exit → Act → World → Prop} (hgd : o.guard = none) (s x : Operand) (t : TypeId)
    (ho : o.op = .call { callee := .builtin .append, args := #[s, x], argTypes := #[t, t] })
    (base : Nat) (e : TypeId) (i : TypeInfo) (z : Value) (size bytes : Nat) (ht : P.underlying t = some (.slice e)) (hi : P.info? e = some i) (hz : i.zero = some z)
    (hsize : i.size = size) (hby : i.bytes = bytes) (hzs : z.cells.size = size) (hsz : 0 < size)
    (v : Value) (n : Nat) (xs : List Value) (hs : a.eval s = v) (hown : w.ownsRow base e size v n xs)
    (PB : Nat → Prop) (A : Option Addr) (m c : Nat) (news : List Value) (hx : a.eval x = .slice A m c) (hl : news.length = m * size) (hr : Rd w PB A news) (h1 : ∀ u ∈ news, u.oneCell' = true)
    (h63 : n + m ≤ maxLen) (hbytes : (n + m) * bytes ≤ 140737488355328) (hbase : base ≤ w.heap.size)
    (h : ∀ v' w', w'.ownsRow base e size v' (n + m) (xs ++ news) → w.grownBy w' v.ownBlock → (v'.ownBlock = v.ownBlock ∨ v'.ownBlock = some w.heap.size) → wpList P ops Q rest (a.put o.dst v') w') : wpList P ops Q (o :: rest) a w := by
  refine wpList_plain hgd fun K hK => ?_
  obtain ⟨v', w', hrun, h2, h3, h4⟩ := run_append_rd (P := P) base t o.type e i z size bytes ht hi hz hsize hby hzs hsz v n xs hown PB A m c news hl hr h1 h63 hbytes hbase
  unfold Oper.wp execOp
  simp only [ho, resolve, invoke, builtin, Sem.run_bind, Sem.run_pure, Result.andThen_ok, List.map_toArray, List.map_cons, List.map_nil, hs, hx, hrun]
  exact hK _ _ (h v' w' h2 h3 h4)
end

/-! ### Rows of bytes of the call's own -/
theorem u8_info : (Tryz.prog.info? 5).map (fun i => (i.zero, i.size, i.bytes)) = some (some (.int .u8 0), 1, 1) := by kernel_rfl
def OwnB (w : World) (base : Nat) (v : Value) (l : List B8) : Prop := w.ownsRow base 5 1 v l.length (bs l)
theorem bs_one (l : List B8) : ∀ u ∈ bs l, u.oneCell' = true := by
  intro u hu
  obtain ⟨_, _, rfl⟩ := List.mem_map.1 hu
  rfl
theorem OwnB.nil (w : World) (base : Nat) : OwnB w base (.slice none 0 0) [] := World.ownsRow_nil _ _ _ _
theorem OwnB.drew {w : World} {base : Nat} {v : Value} {l : List B8} (h : OwnB w base v l) : OwnB w.drew base v l := h
theorem OwnB.alloc {w : World} {base : Nat} {v : Value} {l : List B8} (h : OwnB w base v l) (o : Obj) : OwnB (w.alloc o) base v l := World.ownsRow.alloc h o
theorem OwnB.form {w : World} {base : Nat} {v : Value} {l : List B8} (h : OwnB w base v l) : ∃ A c, v = .slice A l.length c ∧ l.length ≤ c := by
  rcases h.2 with ⟨rfl, hn⟩ | ⟨g, cap, cur, rfl, _, _, hc, _⟩
  · exact ⟨none, 0, by rw [hn], by omega⟩
  · exact ⟨_, _, rfl, hc⟩
theorem OwnB.rd {w : World} {base : Nat} {A : Option Addr} {c : Nat} {l : List B8} (h : OwnB w base (.slice A l.length c) l) {P : Nat → Prop} (hP : ∀ g, base ≤ g → g < w.heap.size → A = some ⟨g, 0, none⟩ → P g) : Rd w P A (bs l) := Rd.of_own h hP
theorem OwnB.kept {w w' : World} {base : Nat} {v : Value} {l : List B8} {row : Option Nat} (h : OwnB w base v l) (hg : w.grownBy w' row) (hne : v.ownBlock = none ∨ v.ownBlock ≠ row) : OwnB w' base v l := World.ownsRow.kept h hg hne
theorem OwnB.lt {w : World} {base : Nat} {v : Value} {l : List B8} (h : OwnB w base v l) : ∀ k, v.ownBlock = some k → base ≤ k ∧ k < w.heap.size := World.ownsRow.lt h
theorem OwnB.below {w w' : World} {base : Nat} {v : Value} {l : List B8} (h : OwnB w base v l) (hb : Below w.heap.size w w') : OwnB w' base v l :=
  h.kept (only_of_below hb none) (by cases v.ownBlock <;> simp)

theorem wpList_append_u8 {w : World} {ops : Array Oper} {rest : List Oper} {o : Oper} {a : Act} {Q : Exit → Act → World → Prop} (hgd : o.guard = none) (s x : Operand)
    (ho : o.op = .call { callee := .builtin .append, args := #[s, x], argTypes := #[30, 30] })
    (base : Nat) (v : Value) (l : List B8) (hs : a.eval s = v) (hown : OwnB w base v l)
    (PB : Nat → Prop) (A : Option Addr) (m c : Nat) (news : List B8) (hx : a.eval x = .slice A m c) (hm : news.length = m) (hr : Rd w PB A (bs news))
    (hbytes : l.length + news.length ≤ 140737488355328) (hbase : base ≤ w.heap.size)
    (h : ∀ v' w', OwnB w' base v' (l ++ news) → w.grownBy w' v.ownBlock → (v'.ownBlock = v.ownBlock ∨ v'.ownBlock = some w.heap.size) → wpList Tryz.prog ops Q rest (a.put o.dst v') w') : wpList Tryz.prog ops Q (o :: rest) a w := by
  subst hm
  obtain ⟨i0, hi0, hz0, hz1, hz2⟩ := info_parts u8_info
  refine wpList_append_rd hgd s x 30 ho base 5 i0 (.int .u8 0) 1 1 Tryz.underlying30 hi0 hz0 hz1 hz2 rfl (by omega) v l.length (bs l) hs hown PB A news.length c (bs news) hx (by simp) hr (bs_one _)
    (by simp only [maxLen]; omega) (by omega) hbase ?_
  intro v' w' h1 h2 h3
  refine h v' w' ?_ h2 h3
  unfold OwnB
  rw [bs_append, List.length_append]
  exact h1

/-! ### A row of bytes whose block and capacity are known. -/
def RowB (w : World) (g cap : Nat) (l : List B8) : Prop := w.ownsRow g 5 1 (.slice (some ⟨g, 0, none⟩) l.length cap) l.length (bs l)
theorem RowB.blk {w : World} {g cap : Nat} {l : List B8} (h : RowB w g cap l) (hc : l.length = cap) : Blk w g 5 (bs l).toArray := by
  rcases h.2 with ⟨h', _⟩ | ⟨g', cap', cur, h', _, hg, hnc, hcm, hcs, ht⟩
  · simp at h'
  · injection h' with h1 _ h2
    injection h1 with h1
    injection h1 with h1 _ _
    subst h1 h2
    have : cur.toList = bs l := by rw [← ht, List.take_of_length_le (by rw [Array.length_toList, hcs, hc]; exact Nat.le_refl _)]
    unfold Blk
    rw [← this]
    exact hg
theorem RowB.of_blk {w : World} {g : Nat} {l : List B8} (h : Blk w g 5 (bs l).toArray) (hl : l.length ≤ maxLen) : RowB w g l.length l :=
  ⟨by simp, .inr ⟨g, l.length, _, rfl, Nat.le_refl _, h, Nat.le_refl _, hl, by simp, List.take_of_length_le (by simp)⟩⟩
theorem RowB.lt {w : World} {g cap : Nat} {l : List B8} (h : RowB w g cap l) : g < w.heap.size := (World.ownsRow.lt h g rfl).2
theorem RowB.own {w : World} {g cap base : Nat} {l : List B8} (h : RowB w g cap l) (hb : base ≤ g) : OwnB w base (.slice (some ⟨g, 0, none⟩) l.length cap) l := by
  refine ⟨h.1, ?_⟩
  rcases h.2 with h' | ⟨g', cap', cur, h', hg, r⟩
  · exact .inl h'
  · exact .inr ⟨g', cap', cur, h', by omega, r⟩
theorem RowB.drew {w : World} {g cap : Nat} {l : List B8} (h : RowB w g cap l) : RowB w.drew g cap l := h
theorem RowB.alloc {w : World} {g cap : Nat} {l : List B8} (h : RowB w g cap l) (o : Obj) : RowB (w.alloc o) g cap l := World.ownsRow.alloc h o
theorem RowB.below {w w' : World} {g cap B : Nat} {l : List B8} (h : RowB w g cap l) (hb : Below B w w') (hg : g < B) : RowB w' g cap l := by
  refine ⟨h.1, ?_⟩
  rcases h.2 with h' | ⟨g', cap', cur, h', hgg, hh, r⟩
  · exact .inl h'
  · injection h' with h1 _ h2
    injection h1 with h1
    injection h1 with h1 _ _
    subst h1
    exact .inr ⟨g, cap', cur, by rw [h2], hgg, (hb.block g hg).trans hh, r⟩
theorem RowB.only {w w' : World} {g cap : Nat} {l : List B8} {row : Option Nat} (h : RowB w g cap l) (hk : w.grownBy w' row) (hne : some g ≠ row) : RowB w' g cap l :=
  World.ownsRow.kept h hk (.inr hne)
theorem RowB.rd {w : World} {g cap : Nat} {l : List B8} (h : RowB w g cap l) {P : Nat → Prop} (hP : P g) : Rd w P (some ⟨g, 0, none⟩) (bs l) :=
  Rd.of_own h fun g' _ _ he => by injection he with he; injection he with he; exact he ▸ hP

theorem OwnB.row {w : World} {base : Nat} {v : Value} {l : List B8} (h : OwnB w base v l) (h0 : 0 < l.length) : ∃ g cap, v = .slice (some ⟨g, 0, none⟩) l.length cap ∧ RowB w g cap l ∧ base ≤ g ∧ l.length ≤ cap := by
  rcases h.2 with ⟨_, hn⟩ | ⟨g, cap, cur, rfl, hb, hg, hc, r⟩
  · omega
  · exact ⟨g, cap, rfl, ⟨h.1, .inr ⟨g, cap, cur, rfl, Nat.le_refl _, hg, hc, r⟩⟩, hb, hc⟩
theorem bs_set (l : List B8) (j : Nat) (x : B8) : (bs l).set j (.int .u8 (x.toNat : Int)) = bs (l.set j x) := by simp [bs, List.map_set]
theorem RowB.stored {w : World} {g cap : Nat} {l : List B8} (h : RowB w g cap l) (j : Nat) (x : B8) :
    RowB (w.setCell ⟨g, j, none⟩ (.int .u8 (x.toNat : Int))) g cap (l.set j x) ∧ w.grownBy (w.setCell ⟨g, j, none⟩ (.int .u8 (x.toNat : Int))) (some g) := by
  have := World.ownsRow.stored h j (.int .u8 (x.toNat : Int))
  rw [bs_set] at this
  unfold RowB
  rw [List.length_set]
  exact this
theorem RowB.cell {w : World} {g cap : Nat} {l : List B8} (h : RowB w g cap l) (j : Nat) (hj : j < l.length) : w.cell? ⟨g, j, none⟩ = some (.int .u8 ((l[j]'hj).toNat : Int)) := by
  have := World.ownsRow.cellAt h j (by omega)
  rw [this, List.getElem?_eq_getElem (by simpa using hj), bs_get]
theorem RowB.frozen {w : World} {g cap : Nat} {l : List B8} (h : RowB w g cap l) (j : Nat) : w.frozen? ⟨g, j, none⟩ = false := World.ownsRow.frozenAt h j

theorem bs_replicate (n : Nat) : bs (List.replicate n 0#8) = List.replicate n (.int .u8 0) := by simp [bs]
theorem made_u8 (n : Nat) : (madeCells (Value.int .u8 0).cells (n * 1)).toList = bs (List.replicate n 0#8) := by
  rw [bs_replicate]
  apply List.ext_getElem
  · simp [madeCells]
  · intro j h1 h2
    simp only [madeCells, Value.cells, Nat.mul_one] at h1 ⊢
    simp [Nat.mod_one]

theorem wpList_make_u8 {w : World} {ops : Array Oper} {rest : List Oper} {o : Oper} {a : Act} {Q : Exit → Act → World → Prop} (hgd : o.guard = none) (l c : Operand) (hop : o.op = Op.makeSlice 30 l c)
    (C : Int) (n : Nat) (hl : a.eval l = .int .i64 0) (hc : a.eval c = .int .i64 C) (hC : C = (n : Int)) (hn : n ≤ 281474976710656)
    (hK : ∀ w', RowB w' w.heap.size n [] → w.grownBy w' none → wpList Tryz.prog ops Q rest (a.put o.dst (.slice (some ⟨w.heap.size, 0, none⟩) 0 n)) w') :
    wpList Tryz.prog ops Q (o :: rest) a w := by
  obtain ⟨i0, hi0, hz0, hz1, hz2⟩ := info_parts u8_info
  exact wpList_make_own w hgd l c 30 hop w.heap.size 5 i0 (.int .u8 0) 1 Tryz.underlying30 hi0 hz0 hz1 .i64 .i64 C n hl hc hC (by rw [hz2]; omega) (by simp only [maxLen]; omega) (Nat.le_refl _) hK
theorem wpList_make_u8_full {w : World} {ops : Array Oper} {rest : List Oper} {o : Oper} {a : Act} {Q : Exit → Act → World → Prop} (hgd : o.guard = none) (l c : Operand) (hop : o.op = Op.makeSlice 30 l c)
    (L C : Int) (n : Nat) (hl : a.eval l = .int .i64 L) (hc : a.eval c = .int .i64 C) (hL : L = (n : Int)) (hC : C = (n : Int)) (hn : n ≤ 281474976710656)
    (hK : ∀ w', RowB w' w.heap.size n (List.replicate n 0#8) → w.grownBy w' none → wpList Tryz.prog ops Q rest (a.put o.dst (.slice (some ⟨w.heap.size, 0, none⟩) n n)) w') :
    wpList Tryz.prog ops Q (o :: rest) a w := by
  obtain ⟨i0, hi0, hz0, hz1, hz2⟩ := info_parts u8_info
  refine wpList_make_full w hgd l c 30 hop w.heap.size 5 i0 (.int .u8 0) 1 Tryz.underlying30 hi0 hz0 hz1 .i64 .i64 L C n hl hc hL hC (by rw [hz2]; omega) (by simp only [maxLen]; omega) (Nat.le_refl _) ?_
  intro w' h1 h2
  refine hK w' ?_ h2
  unfold RowB
  rw [List.length_replicate, ← made_u8]
  exact h1
/-- append within the capacity. -/
theorem wpList_append_fits_u8 {w : World} {ops : Array Oper} {rest : List Oper} {o : Oper} {a : Act} {Q : Exit → Act → World → Prop} (hgd : o.guard = none) (s x : Operand)
    (ho : o.op = .call { callee := .builtin .append, args := #[s, x], argTypes := #[30, 30] })
    (g n cap : Nat) (l : List B8) (hs : a.eval s = .slice (some ⟨g, 0, none⟩) n cap) (hn : l.length = n) (hrow : RowB w g cap l)
    (PB : Nat → Prop) (A : Option Addr) (m c : Nat) (news : List B8) (hx : a.eval x = .slice A m c) (hm : news.length = m) (hr : Rd w PB A (bs news)) (hfit : n + m ≤ cap)
    (h : ∀ w', RowB w' g cap (l ++ news) → w.grownBy w' (some g) → wpList Tryz.prog ops Q rest (a.put o.dst (.slice (some ⟨g, 0, none⟩) (n + m) cap)) w') : wpList Tryz.prog ops Q (o :: rest) a w := by
  subst hn hm
  obtain ⟨i0, hi0, hz0, hz1, hz2⟩ := info_parts u8_info
  have fin : ∀ w', w'.ownsRow g 5 1 (.slice (some ⟨g, 0, none⟩) (l.length + news.length) cap) (l.length + news.length) (bs l ++ bs news) → w.grownBy w' (some g) →
      wpList Tryz.prog ops Q rest (a.put o.dst (.slice (some ⟨g, 0, none⟩) (l.length + news.length) cap)) w' := by
    intro w' h1 h2
    refine h w' ?_ h2
    unfold RowB
    rw [bs_append, List.length_append]
    exact h1
  rcases A with _ | ad
  · have hn : news = [] := by
      rcases Nat.eq_zero_or_pos news.length with h0 | h0
      · exact List.eq_nil_of_length_eq_zero h0
      · obtain ⟨_, _, hh, _⟩ := hr (by simpa using h0)
        cases hh
    subst hn
    refine wpList_plain hgd fun K hK => ?_
    have hrun := run_append_of_nil (P := Tryz.prog) g 30 o.type 5 i0 1 Tryz.underlying30 hi0 _ _ _ hrow c
    unfold Oper.wp execOp
    simp only [ho, resolve, invoke, builtin, Sem.run_bind, Sem.run_pure, Result.andThen_ok, List.map_toArray, List.map_cons, List.map_nil, hs, hx, List.length_nil, hrun]
    exact hK _ _ (fin w (by rw [show bs l ++ bs [] = bs l by simp [bs]]; exact hrow) (World.grownBy.refl _ _))
  · exact wpList_append_fits w hgd s x 30 ho g 5 i0 1 Tryz.underlying30 hi0 hz1 g l.length cap (bs l) hs hrow ad news.length c (bs news) hx (by simp) (rd_cells hr) (bs_one _) hfit fin
/-- The one-cell block in which 'append(xs, c)' lays its byte. -/
theorem rd_one (w : World) (c : B8) (P : Nat → Prop) (h : P w.heap.size) : Rd (w.alloc (.cells #[.int .u8 (c.toNat : Int)] 5)) P (some ⟨w.heap.size, 0, none⟩) (bs [c]) := rd_new w 5 (bs [c]) P h
end Go.Proofs.YtdkcjmpikmnedaaGreat