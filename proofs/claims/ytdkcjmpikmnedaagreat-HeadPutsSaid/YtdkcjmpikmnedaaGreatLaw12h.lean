/- The walk through HeadPuts. -/
import Derived.Test.YtdkcjmpikmnedaaGreatRef12p
import Derived.Test.YtdkcjmpikmnedaaGreatApartW
namespace Go.Proofs.YtdkcjmpikmnedaaGreat
open Go.RowKit
set_option linter.unusedSimpArgs false

theorem stop_loadH {P : Program} {ops : Array Oper} {Q : Exit → Act → World → Prop} {rest : List Oper} {a : Act} {w : World} {d : Option Tmp} {ty : TypeId} {pos : String} {after : Array Edge} {g : Option (Nat × Bool)} {x : Operand}
    (h : Stopped (wpList P ops Q ({ dst := d, op := .load 56 x, type := ty, pos := pos, after := after, guard := g } :: rest) a w)) :
    wpList P ops Q ({ dst := d, op := .load 56 x, type := ty, pos := pos, after := after, guard := g } :: rest) a w := h
set_option maxRecDepth 100000 in
set_option maxHeartbeats 3200000 in
theorem headPuts_any (h : Hd) (w : World) : Calls Tryz.prog 6 #[.agg h.cs] w fun r w' => r = .returned (.bool true) ∧ Below w.heap.size w w' := by
  have b0 : Below w.heap.size w (w.alloc (.cells h.cs 56)) := (Below.refl _ _).alloc (Nat.le_refl _) _
  have B0 : Blk (w.alloc (.cells h.cs 56)) w.heap.size 56 h.cs := Blk.new _ _ _
  have z0 : w.heap.size < (w.alloc (.cells h.cs 56)).heap.size := B0.lt
  have EP : hputRes h.v h.s h.g h.u h.j h.nu h.pg h.rt h.sn = h.put := by
    by_cases ok : headOk h
    · rw [show h.put = (h.bytes, 0) from hd_put_ok ok]; exact hd_put_ok ok
    · rw [show h.put = ([], 2) from hd_put_bad ok]; exact hd_put_bad ok
  have HP := fun w => hput_own h.v h.s h.g h.u h.j h.nu h.pg h.rt h.sn w
  have hlen := hputRes_len h.v h.s h.g h.u h.j h.nu h.pg h.rt h.sn
  rw [EP] at HP hlen
  clear EP
  go_enter Tryz.func6, Tryz.ntmps6
  go_wp2_with (with_reducible refine stop_loadH ?_)
  unfold Stopped
  generalize w.alloc (.cells h.cs 56) = w1 at *
  refine wpList_load_row rfl _ _ rfl w.heap.size rfl _ _ _ _ B0 Tryz.underlying56 rfl head_size ?_
  go_wp2_with fail
  refine (HP w1).mono ?_
  rintro r w2 ⟨A2, c2, rfl, own2, _, b2⟩
  have B2 := B0.below b2 B0.lt
  have bb2 := b0.trans (b2.mono (Nat.le_of_lt z0))
  have l2 := own2.lt
  clear B0 b0
  go_wp2_with (with_reducible refine stop_loadH ?_)
  unfold Stopped
  refine wpList_load_row rfl _ _ rfl w.heap.size rfl _ _ _ _ B2 Tryz.underlying56 rfl head_size ?_
  go_wp2_with fail
  refine (HP w2).mono ?_
  rintro r w3 ⟨A3, c3, rfl, own3, _, b3⟩
  have B3 := B2.below b3 B2.lt
  have bb3 := bb2.trans (b3.mono bb2.size)
  have own2' := own2.below b3
  have l3 := own3.lt
  clear B2 bb2
  go_wp2_with (with_reducible refine stop_loadH ?_)
  unfold Stopped
  refine wpList_load_row rfl _ _ rfl w.heap.size rfl _ _ _ _ B3 Tryz.underlying56 rfl head_size ?_
  go_wp2_with fail
  refine (rput12_any h w3).mono ?_
  rintro r w4 ⟨A4, c4, rfl, own4, _, b4⟩
  have bb4 := bb3.trans (b4.mono bb3.size)
  have own2b := own2'.below b4
  have own3b := own3.below b4
  clear B3 bb3 own2' own2 own3
  have n2 := b2.size
  have n3 := b3.size
  have n4 := b4.size
  generalize h.put = R at *
  go_wp2_with fail
  have SB := same_any A2 A4 c2 c4 R.1 R.1 (fun _ => True) (fun _ => True) w4 (own2b.rd fun _ _ _ _ => trivial) (own4.rd fun _ _ _ _ => trivial) (by omega) (by omega)
  rw [decide_eq_true rfl] at SB
  refine SB.mono ?_
  rintro r w5 ⟨rfl, d5⟩
  have bb5 := bb4.trans (d5.below _)
  have o2 := own2b.below (d5.below w4.heap.size)
  have o3 := own3b.below (d5.below w4.heap.size)
  have n5 := (d5.below w4.heap.size).size
  clear SB own2b own3b own4 bb4
  have T6 := Blk.new w5 30 #[.slice A2 R.1.length c2, .slice A3 R.1.length c3]
  have b6 := bb5.alloc bb5.size (.cells #[.slice A2 R.1.length c2, .slice A3 R.1.length c3] 30)
  have o26 := o2.alloc (.cells #[.slice A2 R.1.length c2, .slice A3 R.1.length c3] 30)
  have o36 := o3.alloc (.cells #[.slice A2 R.1.length c2, .slice A3 R.1.length c3] 30)
  go_wp2_with fail
  generalize w5.alloc (.cells #[.slice A2 R.1.length c2, .slice A3 R.1.length c3] 30) = w6 at *
  have v2 : ∀ b, (Value.slice A2 R.1.length c2).ownBlock = some b → w1.heap.size ≤ b ∧ b < w2.heap.size := l2
  have v3 : ∀ b, (Value.slice A3 R.1.length c3).ownBlock = some b → w2.heap.size ≤ b ∧ b < w3.heap.size := l3
  refine (apartBytes_any w5.heap.size 2 2 (fun k => if k = 0 then .slice A2 R.1.length c2 else .slice A3 R.1.length c3) (fun _ => R.1) w6 ?_ ?_ (by omega) (by omega) ?_ ?_).mono ?_
  · intro k hk
    match k, hk with
    | 0, _ => exact T6.cell 0
    | 1, _ => exact T6.cell 1
  · intro j k b hj hk h1 h2
    match j, k, hj, hk with
    | 0, 0, _, _ => rfl
    | 1, 1, _, _ => rfl
    | 0, 1, _, _ =>
      have := v2 b h1
      have := v3 b h2
      omega
    | 1, 0, _, _ =>
      have := v2 b h2
      have := v3 b h1
      omega
  · intro k hk
    match k, hk with
    | 0, _ => exact o26.mono (Nat.zero_le _)
    | 1, _ => exact o36.mono (Nat.zero_le _)
  · intro k hk
    show R.1.length ≤ 100000
    omega
  rintro r w7 ⟨rfl, c7⟩
  have b7 := b6.trans (c7.below (B := w.heap.size) b6.size fun b hb ⟨k, hk, h1⟩ => by
    match k, hk with
    | 0, _ => have := v2 b h1; omega
    | 1, _ => have := v3 b h1; omega)
  go_wp2_with fail
  refine (awake12_any w7).mono ?_
  rintro r w8 ⟨rfl, b8⟩
  go_wp2
  go_ret
  exact ⟨rfl, b7.trans (b8.mono b7.size)⟩
end Go.Proofs.YtdkcjmpikmnedaaGreat
