/- Package bytes, and rows of bytes as strings. -/
import Derived.Test.YtdkcjmpikmnedaaGreatMem
import Derived.Laws.BytesArg
import Derived.Lib.SliceRun
namespace Go.Proofs.YtdkcjmpikmnedaaGreat
open Go.RowKit

/-- Bytes as a string. -/
def str (l : List B8) : ByteArray := strOfNums (l.map fun c => (c.toNat : Int))
theorem str_data (l : List B8) : (str l).data.toList = l.map fun c => UInt8.ofNat c.toNat := by
  unfold str
  rw [strOfNums_data, List.map_map]
  rfl
theorem str_toList (l : List B8) : (str l).toList = l.map fun c => UInt8.ofNat c.toNat := by rw [← str_data, ByteArray.toList_eq]
theorem str_inj {l m : List B8} (h : str l = str m) : l = m := by
  have := congrArg ByteArray.toList h
  rw [str_toList, str_toList] at this
  refine List.map_inj_right (fun x y e => ?_) |>.1 this
  have e2 := congrArg UInt8.toNat e
  rw [UInt8.toNat_ofNat', UInt8.toNat_ofNat'] at e2
  have := x.isLt
  have := y.isLt
  exact BitVec.eq_of_toNat_eq (by omega)
theorem str_eq (l m : List B8) : ((str l).toList == (str m).toList) = decide (l = m) := by
  by_cases h : l = m
  · subst h; simp
  · have : ¬ (str l).toList = (str m).toList := fun e => h (str_inj (by rw [ByteArray.toList_eq, ByteArray.toList_eq] at e; exact ByteArray.ext (Array.ext' e)))
    rw [decide_eq_false h, beq_eq_false_iff_ne]
    exact this
theorem run_str (w : World) (A : Option Addr) (c : Nat) (l : List B8) (P : Nat → Prop) (hr : Rd w P A (bs l)) :
    (convert 30 9 (.slice A l.length c)).run Tryz.prog w = .ok (.string (str l)) w := by
  have hu : Tryz.prog.underlying 9 = some .string := by kernel_rfl
  rcases l with _ | ⟨x, l⟩
  · rcases A with _ | ⟨b, off, sp⟩
    · exact run_convert_bytes_nil w 30 5 Tryz.underlying30 Tryz.underlying5 _ _ _ hu
    · rw [run_convert_bytes_string w 30 9 5 _ _ _ Tryz.underlying30 Tryz.underlying5 hu]
      exact run_bytesToString w _ 0 c [] (by simp [loadCells, loadCellsFrom])
  · obtain ⟨b, off, rfl, _, hc⟩ := hr (by simp)
    have := run_convert_bytes_arg (P := Tryz.prog) w 30 5 Tryz.underlying30 Tryz.underlying5 b off (x :: l).length c ((x :: l).map fun c => (c.toNat : Int)) (by simp) (fun i hi => by
      rw [hc i (by simpa using hi), bs_get, List.getD_eq_getElem?_getD, List.getElem?_map, List.getElem?_eq_getElem hi]
      rfl) 9 hu
    exact this

theorem equal_any (A A' : Option Addr) (c c' : Nat) (l m : List B8) (P Q : Nat → Prop) (w : World) (h1 : Rd w P A (bs l)) (h2 : Rd w Q A' (bs m)) :
    Calls Tryz.prog 60 #[.slice A l.length c, .slice A' m.length c'] w fun e w' => e = .returned (.bool (decide (l = m))) ∧ w = w' := by
  have k1 := run_str w A c l P h1
  have k2 := run_str w A' c' m Q h2
  have k3 := str_eq l m
  clear h1 h2
  go_enter Tryz.func60, Tryz.ntmps60
  go_wp2
  go_ret
  first
  | exact ⟨by rw [← k3]; rfl, rfl⟩
  | go_show
theorem hasPrefix_any (A A' : Option Addr) (c c' : Nat) (l m : List B8) (P Q : Nat → Prop) (w : World) (h1 : Rd w P A (bs l)) (h2 : Rd w Q A' (bs m)) (hm : m.length ≤ 140737488351232) (hlc : l.length ≤ c) :
    Calls Tryz.prog 117 #[.slice A l.length c, .slice A' m.length c'] w fun e w' => e = .returned (.bool (decide (m <+: l))) ∧ w = w' := by
  by_cases hle : m.length ≤ l.length
  · have hx : decide (m <+: l) = decide (l.take m.length = m) := by
      exact decide_eq_decide.2 (List.prefix_iff_eq_take.trans ⟨fun h => h.symm, fun h => h.symm⟩)
    have ht := h1.take m.length
    rw [← bs_take] at ht
    have E := equal_any A A' c c' (l.take m.length) m P Q w ht h2
    rw [List.length_take, Nat.min_eq_left hle] at E
    rw [hx]
    have HE := hide E
    clear hx ht E h1 h2
    go_enter Tryz.func117, Tryz.ntmps117
    go_wp2_with (go_at_call 60; refine HE.out.mono ?_; rintro e w' ⟨rfl, rfl⟩)
    go_ret
    exact ⟨rfl, rfl⟩
  · have hx : decide (m <+: l) = false := decide_eq_false fun h => hle h.length_le
    rw [hx]
    clear hx h1 h2
    go_enter Tryz.func117, Tryz.ntmps117
    go_wp2
    go_ret
    exact ⟨rfl, rfl⟩
set_option maxRecDepth 100000 in
/-- Clone: nil of nil; otherwise new memory. -/
theorem clone_any (A : Option Addr) (c : Nat) (l : List B8) (P : Nat → Prop) (w : World) (hr : Rd w P A (bs l)) (hl : l.length ≤ 140737488351232) (hA : A = none → l = []) :
    Calls Tryz.prog 116 #[.slice A l.length c] w fun e w' => (∃ v, e = .returned v ∧ OwnB w' w.heap.size v l) ∧ Below w.heap.size w w' := by
  have ks := fun (w : World) (a : Option Addr) (n c : Nat) => Lib.run_eql_slice_nil (P := Tryz.prog) w 30 5 a n c 0 0 Tryz.underlying30
  rcases A with _ | a
  · obtain rfl := hA rfl
    clear hl hr hA
    rw [show ([] : List B8).length = 0 from rfl]
    go_enter Tryz.func116, Tryz.ntmps116
    go_wp2
    go_ret
    exact ⟨⟨_, rfl, OwnB.nil _ _⟩, Below.refl _ _⟩
  · go_enter Tryz.func116, Tryz.ntmps116
    go_wp2_with (with_reducible refine stop_append ?_)
    unfold Stopped
    have r1 : RowB (w.alloc (.cells #[] 5)) w.heap.size 0 [] := RowB.of_blk (Blk.new _ _ _) (by simp)
    refine wpList_append_u8 rfl _ _ rfl w.heap.size (.slice (some ⟨w.heap.size, 0, none⟩) 0 0) [] rfl (r1.own (Nat.le_refl _)) (· < w.heap.size) (some a) l.length c l rfl rfl (Rd.below (hr.imp (Q := (· < w.heap.size)) fun b hb _ => hb) ((Below.refl _ _).alloc (Nat.le_refl _) _) fun b _ hb => hb) (by simp; omega) (by simp) ?_
    intro v1 w1 hown hg _
    rw [List.nil_append] at hown
    have hb : Below w.heap.size w w1 := by
      have hbA := (Below.refl w.heap.size w).alloc (Nat.le_refl _) (.cells #[] 5)
      exact hbA.trans (below_of_only hg (Nat.le_refl _) hbA.size)
    go_wp2
    go_ret
    exact ⟨⟨v1, rfl, hown⟩, hb⟩

/-- append onto a row in which there is no room: the new row is the call's own, whatever the old one was. -/
theorem wpList_append_grow_u8 {w : World} {ops : Array Oper} {rest : List Oper} {o : Oper} {a : Act} {Q : Exit → Act → World → Prop} (hgd : o.guard = none) (s x : Operand)
    (ho : o.op = .call { callee := .builtin .append, args := #[s, x], argTypes := #[30, 30] })
    (base : Nat) (b : Addr) (n cap : Nat) (l : List B8) (hs : a.eval s = .slice (some b) n cap) (hn : l.length = n) (P0 : Nat → Prop) (hl : Rd w P0 (some b) (bs l))
    (PB : Nat → Prop) (A : Addr) (m c : Nat) (news : List B8) (hx : a.eval x = .slice (some A) m c) (hm : news.length = m) (hr : Rd w PB (some A) (bs news)) (hfull : cap < n + m)
    (hbytes : n + m ≤ 140737488355328) (hbase : base ≤ w.heap.size)
    (h : ∀ v' w', OwnB w' base v' (l ++ news) → w.grownBy w' none → wpList Tryz.prog ops Q rest (a.put o.dst v') w') : wpList Tryz.prog ops Q (o :: rest) a w := by
  subst hn hm
  obtain ⟨i0, hi0, hz0, hz1, hz2⟩ := info_parts u8_info
  refine wpList_plain hgd fun K hK => ?_
  have hge := grownCap_ge w (l.length + news.length) cap 5
  have hcm : grownCap w (l.length + news.length) cap 5 ≤ maxLen := grownCap_le_maxLen w _ cap 5 (by simp only [maxLen]; omega)
  have hrun := run_append_grow (P := Tryz.prog) w 30 o.type 5 i0 (.int .u8 0) Tryz.underlying30 hi0 hz0 b l.length cap (bs l) (by rw [hz1]; simp) (rd_cells hl) A news.length c (bs news) (by rw [hz1]; simp) (rd_cells hr) hfull (by omega)
    (by rw [hz2, Nat.mul_one]; exact Nat.le_trans (Nat.le_of_eq (Nat.mul_one _).symm) (growslice_fits (by omega) (by omega)))
  unfold Oper.wp execOp
  simp only [ho, resolve, invoke, builtin, Sem.run_bind, Sem.run_pure, Result.andThen_ok, List.map_toArray, List.map_cons, List.map_nil, hs, hx, hrun]
  refine hK _ _ (h _ _ ⟨by simp, .inr ⟨w.heap.size, _, _, by rw [List.length_append], hbase, heap_alloc_new w.drew _, by rw [List.length_append]; exact hge, hcm, ?_, ?_⟩⟩ (only_alloc (only_drew (only_refl _ _)) _))
  · simp only [Array.size_append, List.size_toArray, size_zeroCells, bs_length, Value.cells]
    simp
    omega
  · simp only [Array.toList_append, List.append_assoc, bs_append]
    rw [← List.append_assoc, ← bs_append, Nat.mul_one, ← bs_length (l ++ news)]
    exact List.take_left
end Go.Proofs.YtdkcjmpikmnedaaGreat
