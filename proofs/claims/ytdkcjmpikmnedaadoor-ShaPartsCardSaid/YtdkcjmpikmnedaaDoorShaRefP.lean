/- The walk through the reference's padded. -/
import Derived.Test.YtdkcjmpikmnedaaDoorShaRef
namespace Go.Proofs.YtdkcjmpikmnedaaDoor
open Go.RowKit
set_option linter.unusedSimpArgs false

set_option maxRecDepth 100000 in
set_option maxHeartbeats 1600000 in
theorem padded_any (A : Option Addr) (c : Nat) (l : List B8) (P : Nat → Prop) (w : World) (hr : Rd w P A (bs l)) (hl : l.length ≤ 1099511627776) :
    Calls Tryd.prog 19 #[.slice A l.length c] w fun e w' => ∃ A' c', e = .returned (.slice A' (pad l).length c') ∧ OwnB w' w.heap.size (.slice A' (pad l).length c') (pad l) ∧ (pad l).length ≤ c' ∧ Below w.heap.size w w' := by
  have b1 : Below w.heap.size w (w.alloc (.cells #[] 5)) := (Below.refl _ _).alloc (Nat.le_refl _) _
  have o1 : OwnB (w.alloc (.cells #[] 5)) w.heap.size (.slice (some ⟨w.heap.size, 0, none⟩) 0 0) [] := (RowB.of_blk (l := []) (Blk.new w 5 #[]) (by simp [maxLen])).own (Nat.le_refl _)
  have r1 := hr.old b1
  have z1 : (w.alloc (.cells #[] 5)).heap.size = w.heap.size + 1 := by simp
  go_enter Tryd.func19, Tryd.ntmps19
  go_wp2_with (with_reducible refine stop_append ?_)
  unfold Stopped
  refine wpList_append_u8 rfl _ _ rfl w.heap.size _ [] rfl o1 _ A l.length c l rfl rfl r1 (by simp; omega) (by simp) ?_
  intro v2 w2 o2 g2 hv2
  have hb2 : Below w.heap.size w w2 := b1.trans ⟨g2.os, g2.tape, g2.output, g2.size, fun k hk => g2.block k (by omega) (fun e => by have := (o1.lt k e.symm).1; omega)⟩
  rw [List.nil_append] at o2
  clear o1 b1 r1 z1 g2 hv2
  go_wp2_with (with_reducible refine stop_append ?_)
  unfold Stopped
  have z2 := hb2.size
  refine wpList_append_u8 rfl _ _ rfl w.heap.size v2 l rfl (o2.alloc _) (fun _ => True) (some ⟨w2.heap.size, 0, none⟩) 1 1 [128#8] rfl rfl (rd_one w2 128#8 _ trivial) (by simp only [List.length_singleton]; omega) (by simp; omega) ?_
  intro v3 w3 o3 g3 hv3
  have hb3 : Below w.heap.size w w3 := (hb2.alloc z2 (.cells #[.int .u8 128] 5)).trans ⟨g3.os, g3.tape, g3.output, g3.size, fun k hk => g3.block k (by simp; omega) (fun e => by have := (o2.lt k e.symm).1; omega)⟩
  clear o2 hb2 z2 g3 hv3
  have F0 : OwnB w3 w.heap.size v3 (l ++ [128#8] ++ List.replicate 0 0#8) := by rw [List.replicate_zero, List.append_nil]; exact o3
  clear o3
  have hz : zeros l.length < 64 := by unfold zeros; omega
  go_wp2_with fail
  go_loopw [3] (fun b wr => ∃ k : Nat, k ≤ zeros l.length ∧ OwnB wr w.heap.size b (l ++ [128#8] ++ List.replicate k 0#8) ∧ Below w.heap.size w wr) (fun b _ => match b with | .slice _ n _ => l.length + 200 - n | _ => 0)
  case atStart => exact ⟨0, by omega, F0, hb3⟩
  case round =>
    clear F0 hb3
    obtain ⟨k, hk, F, hb⟩ := hrel
    obtain ⟨ll, El⟩ : ∃ x, x = (l ++ [128#8] ++ List.replicate k 0#8) := ⟨_, rfl⟩
    rw [← El] at F
    have len : ll.length = l.length + 1 + k := by rw [El]; simp only [List.length_append, List.length_singleton, List.length_replicate]
    have bl : ll.length < l.length + 200 := by omega
    obtain ⟨Ab, cb, rfl, hcb⟩ := F.form
    by_cases hlk : k < zeros l.length
    · have T : ((ll.length : Int) % 64 != 56) = true := by
        rw [bne_iff_ne]
        unfold zeros at hlk
        omega
      have HL := hide (And.intro El len)
      clear El len
      have zz := hb.size
      go_wp2_with (with_reducible refine stop_append ?_)
      unfold Stopped
      refine wpList_append_u8 rfl _ _ rfl w.heap.size _ ll rfl (F.alloc _) (fun _ => True) (some ⟨wr.heap.size, 0, none⟩) 1 1 [0#8] rfl rfl (rd_one wr 0#8 _ trivial) (by simp; omega) (by simp; omega) ?_
      intro v4 w4 o4 g4 hv4
      have hb4 : Below w.heap.size w w4 := (hb.alloc zz (.cells #[.int .u8 0] 5)).trans ⟨g4.os, g4.tape, g4.output, g4.size, fun k hk => g4.block k (by simp; omega) (fun e => by have := (F.lt k e.symm).1; omega)⟩
      obtain ⟨A4, c4, rfl, hc4⟩ := o4.form
      rw [show (ll ++ [0#8]).length = ll.length + 1 by simp] at o4
      clear hv4 g4
      have HO := hide o4
      clear o4 F
      go_wp2_with fail
      go_roundw
      case rel => have HL2 := HL.out; exact ⟨k + 1, by have := HL2.2; omega, by rw [List.replicate_succ', ← List.append_assoc, ← HL2.1]; exact HO.out, hb4⟩
      case measure => simp; omega
    · have T : ((ll.length : Int) % 64 != 56) = false := by
        rw [bne_eq_false_iff_eq]
        unfold zeros at hlk hk
        omega
      have ek : k = zeros l.length := by omega
      have HL := hide (And.intro El (And.intro len ek))
      have bl2 : ll.length < l.length + 70 := by omega
      clear El len ek hk hlk bl
      have W1 : IntKind.u64.wrap (8 * (l.length : Int)) = 8 * (l.length : Int) := by rw [IntKind.wrap_u64]; omega
      go_wp2_with fail
      go_loopw [3, 5] (fun b i wr => ∃ j : Nat, j ≤ 8 ∧ i = .int .i64 (7 - (j : Int)) ∧ OwnB wr w.heap.size b (ll ++ (len8 l.length).take j) ∧ Below w.heap.size w wr) (fun _ i _ => (intOf i + 1).toNat)
      case atStart => exact ⟨0, by omega, rfl, by rw [List.take_zero, List.append_nil]; exact F, hb⟩
      case round =>
        clear F hcb hb
        obtain ⟨j, hj, rfl, F, hb⟩ := hrel
        by_cases hj8 : j < 8
        · obtain ⟨e, ee⟩ : ∃ e : Nat, (7 : Int) - (j : Int) = (e : Int) := ⟨7 - j, by omega⟩
          rw [ee]
          have he : (e : Int) ≤ 7 := by omega
          have HEJ := hide ee
          clear ee
          have W2 : IntKind.i64.wrap (8 * (e : Int)) = 8 * (e : Int) := by rw [IntKind.wrap_i64]; omega
          have W3 : IntKind.u64.wrap (8 * (e : Int)) = 8 * (e : Int) := by rw [IntKind.wrap_u64]; omega
          have zz := hb.size
          go_wp2_with (with_reducible refine stop_append ?_)
          unfold Stopped
          have V : 8 * (l.length : Int) / 2 ^ (8 * e) % 256 = ((BitVec.ofNat 8 ((8 * l.length % 18446744073709551616) / 2 ^ (8 * (7 - j)))).toNat : Int) := by
            have ee := HEJ.out
            rw [show 7 - j = e by omega, Nat.mod_eq_of_lt (by omega), BitVec.toNat_ofNat]
            push_cast
            rfl
          rw [V]
          clear V
          obtain ⟨cc, Ecc⟩ : ∃ x, x = BitVec.ofNat 8 ((8 * l.length % 18446744073709551616) / 2 ^ (8 * (7 - j))) := ⟨_, rfl⟩
          rw [← Ecc]
          have HC := hide Ecc
          clear Ecc
          have l8 : (ll ++ (len8 l.length).take j).length ≤ l.length + 90 := by rw [List.length_append, List.length_take]; omega
          refine wpList_append_u8 rfl _ _ rfl w.heap.size u3 (ll ++ (len8 l.length).take j) rfl (F.alloc _) (fun _ => True) (some ⟨wr.heap.size, 0, none⟩) 1 1 [cc] rfl rfl (rd_one wr cc _ trivial) (by simp only [List.length_singleton]; omega) (by simp; omega) ?_
          intro v4 w4 o4 g4 hv4
          have hb4 : Below w.heap.size w w4 := (hb.alloc zz (.cells #[.int .u8 (cc.toNat : Int)] 5)).trans ⟨g4.os, g4.tape, g4.output, g4.size, fun k hk => g4.block k (by simp; omega) (fun e => by have := (F.lt k e.symm).1; omega)⟩
          have HF := hide o4
          clear o4 F g4 hv4
          go_wp2_with fail
          go_roundw
          case rel =>
            have ee := HEJ.out
            exact ⟨j + 1, by omega, by go_num, by rw [len8_take _ _ hj8, ← HC.out, ← List.append_assoc]; exact HF.out, hb4⟩
          case measure => simp [intOf]
        · have e8 : j = 8 := by omega
          subst e8
          have et : ll ++ (len8 l.length).take 8 = pad l := by
            obtain ⟨q1, q2, q3⟩ := HL.out
            rw [q1, q3, show (len8 l.length).take 8 = len8 l.length from rfl, pad, tail]
            simp
          rw [et] at F
          clear et
          obtain ⟨A5, c5, rfl, hc5⟩ := F.form
          have HF := hide F
          clear F
          go_wp2
          go_ret
          exact ⟨A5, c5, rfl, HF.out, hc5, hb⟩
end Go.Proofs.YtdkcjmpikmnedaaDoor
