/- The walks through sha's finish and Sum. -/
import Derived.Test.YtdkcjmpikmnedaaDoorShaWrite
import Derived.Test.YtdkcjmpikmnedaaDoorSync
namespace Go.Proofs.YtdkcjmpikmnedaaDoor
open Go.RowKit
set_option linter.unusedSimpArgs false

theorem Blk.setCells {g : Nat} {t : TypeId} (vs : List Value) : ∀ (l1 l2 l3 : List Value) (w : World), l2.length = vs.length → Blk w g t (l1 ++ l2 ++ l3).toArray → Blk (w.setCells g l1.length vs) g t (l1 ++ vs ++ l3).toArray := by
  induction vs with
  | nil =>
    intro l1 l2 l3 w hl h
    obtain rfl : l2 = [] := List.eq_nil_of_length_eq_zero hl
    exact h
  | cons x vs ih =>
    intro l1 l2 l3 w hl h
    obtain ⟨y, l2, rfl⟩ : ∃ y r, l2 = y :: r := by cases l2 with | nil => cases hl | cons y r => exact ⟨y, r, rfl⟩
    have h1 := h.set_ l1.length x
    rw [List.setIfInBounds_toArray, List.append_assoc, List.set_append_right _ _ (Nat.le_refl _), Nat.sub_self] at h1
    have h2 := ih (l1 ++ [x]) l2 l3 (w.setCell ⟨g, l1.length, none⟩ x) (by simpa using hl) (by simpa using h1)
    rw [List.length_append, List.length_singleton] at h2
    simpa [World.setCells] using h2
theorem Chg.setCells {K : Nat → Prop} {w : World} {g : Nat} (hg : g < w.heap.size → K g) (vs : List Value) : ∀ (o : Nat) (w' : World), Chg K w w' → Chg K w (w'.setCells g o vs) := by
  induction vs with
  | nil => intro o w' h; exact h
  | cons x vs ih => intro o w' h; exact ih (o + 1) _ (h.setCell (p := ⟨g, o, none⟩) hg x)
theorem hashC_key (sb : Nat) (v : Value) (n dn st : Int) (td : Bool) (k k' : List B8) (w : World) (H : Nat) (hl : k.length = k'.length) (h : Blk w H 48 (hashC sb v n dn st td k)) :
    Blk (w.setCells H 7 (bs k')) H 48 (hashC sb v n dn st td k') := by
  have := Blk.setCells (bs k') [.pointer (some ⟨sb, 0, none⟩), v, .int .u64 n, .int .u32 dn, .int .i32 st, .int .u32 0, .bool td] (bs k) [] w (by simpa using hl) (by simpa [hashC] using h)
  simpa [hashC] using this
theorem hash_range {w : World} {H sb : Nat} {v : Value} {n dn st : Int} {td : Bool} {k : List B8} (h : Blk w H 48 (hashC sb v n dn st td k)) : w.rangeAt H 7 (bs k) := by
  intro j x hx
  rw [h.cell]
  unfold hashC
  rw [List.getElem?_toArray, show 7 + j = j + 7 by omega]
  exact hx
theorem hash_there {w : World} {H sb : Nat} {v : Value} {n dn st : Int} {td : Bool} {k : List B8} (h : Blk w H 48 (hashC sb v n dn st td k)) : w.there H 7 k.length := by
  intro j hj
  have hj2 : j < (bs k).length := by simpa using hj
  exact ⟨by rw [hash_range h j _ (List.getElem?_eq_getElem hj2)]; rfl, h.frozen _⟩
theorem stop_load_mid {P : Program} {ops : Array Oper} {Q : Exit → Act → World → Prop} {rest : List Oper} {a : Act} {w : World} {d : Option Tmp} {ty : TypeId} {pos : String} {after : Array Edge} {g : Option (Nat × Bool)} {x : Operand}
    (h : Stopped (wpList P ops Q ({ dst := d, op := .load 26 x, type := ty, pos := pos, after := after, guard := g } :: rest) a w)) :
    wpList P ops Q ({ dst := d, op := .load 26 x, type := ty, pos := pos, after := after, guard := g } :: rest) a w := h

theorem tail_at (n k : Nat) (h : k < 8) : len8 n = (len8 n).take k ++ [BitVec.ofNat 8 ((8 * n % 18446744073709551616) / 2 ^ (8 * (7 - k)))] ++ (len8 n).drop (k + 1) := by
  match k, h with
  | 0, _ => rfl
  | 1, _ => rfl
  | 2, _ => rfl
  | 3, _ => rfl
  | 4, _ => rfl
  | 5, _ => rfl
  | 6, _ => rfl
  | 7, _ => rfl
theorem len8_take (n k : Nat) (h : k < 8) : (len8 n).take (k + 1) = (len8 n).take k ++ [BitVec.ofNat 8 ((8 * n % 18446744073709551616) / 2 ^ (8 * (7 - k)))] := by
  match k, h with
  | 0, _ => rfl
  | 1, _ => rfl
  | 2, _ => rfl
  | 3, _ => rfl
  | 4, _ => rfl
  | 5, _ => rfl
  | 6, _ => rfl
  | 7, _ => rfl
theorem digest_left (t : List B8) : blks (blks wFirst t) (left t ++ tail t.length) = blks wFirst (pad t) := blks_append _ _ _

/-- What stands while finish lays its tail: b reads as l, in memory that is v's or new. -/
structure FinI (H S : Nat) (v : Value) (t : List B8) (st : Int) (w : World) (l : List B8) (b : Value) (wr : World) : Prop where
  own : OwnB wr (H + 1) b l
  hash : Blk wr H 48 (hashC S v t.length 0 st true nokey)
  state : Blk wr S 63 (blks wFirst t).cs
  rks : RksAt wr
  chg : Chg (fun b => b = H ∨ b = S ∨ some b = v.ownBlock) w wr
  home : ∀ g, g < w.heap.size → some g = b.ownBlock → g = H ∨ g = S ∨ some g = v.ownBlock
theorem FinI.more {H S : Nat} {v : Value} {t : List B8} {st : Int} {w : World} {l : List B8} {b : Value} {wr : World} (h : FinI H S v t st w l b wr) (hlt : S < H) (h1 : 1 < S) (C : Array Value) {b' : Value} {w' : World} {l' : List B8}
    (ho : OwnB w' (H + 1) b' l') (gr : (wr.alloc (.cells C 5)).grownBy w' b.ownBlock) (hb : b'.ownBlock = b.ownBlock ∨ b'.ownBlock = some (wr.alloc (.cells C 5)).heap.size) : FinI H S v t st w l' b' w' := by
  have nv : ∀ x, x ≤ H → some x ≠ b.ownBlock := fun x hx e => by have := (h.own.lt x e.symm).1; omega
  have hsz : (wr.alloc (.cells C 5)).heap.size = wr.heap.size + 1 := by simp
  refine ⟨ho, (h.hash.alloc _).grown gr (nv H (Nat.le_refl _)), (h.state.alloc _).grown gr (nv S (by omega)), RowAt.grown (RowAt.alloc h.rks _) gr (nv 1 (by omega)), ?_, ?_⟩
  · exact (h.chg.alloc (.cells C 5)).trans' (Chg.of_grown (K := fun x => some x = b.ownBlock) gr fun _ _ e => e) h.home
  · intro g hg e
    rcases hb with hb | hb
    · exact h.home g hg (e.trans hb)
    · rw [hb, hsz] at e
      injection e with e
      have := h.chg.size
      omega

set_option maxRecDepth 100000 in
set_option maxHeartbeats 1600000 in
/-- finish, the lock held. -/
theorem finish_any (H S : Nat) (v : Value) (t : List B8) (st : Int) (w : World) (hH : Blk w H 48 (hashC S v t.length 0 st false nokey)) (hS : Blk w S 63 (blks wFirst t).cs) (ho : OwnB w (H + 1) v (left t)) (hlt : S < H) (h1 : 1 < S) (hK : RksAt w) (hb : t.length ≤ 1099511627776) :
    Calls Tryd.prog 24 #[.pointer (some ⟨H, 0, none⟩)] w fun e w' => e = .returned (.tuple #[]) ∧ Blk w' H 48 (hashC S v t.length 0 st true (digest t)) ∧ Chg (fun b => b = H ∨ b = S ∨ some b = v.ownBlock) w w' := by
  have f6 := hH.frozen 6
  have h6 := hash6 hH
  have hSl := hS.lt
  have hHl := hH.lt
  have nv : ∀ b, b ≤ H → some b ≠ v.ownBlock := fun b hb e => by have := (ho.lt b e.symm).1; omega
  have hH1 := hH.set_ 6 (.bool true)
  rw [hashC_told] at hH1
  have g1 : Chg (fun b => b = H ∨ b = S ∨ some b = v.ownBlock) w (w.setCell ⟨H, 6, none⟩ (.bool true)) := (Chg.refl _ w).setCell (fun _ => .inl rfl) _
  have hS1 := hS.far (p := ⟨H, 6, none⟩) (by simp; omega) (.bool true)
  have hK1 : RksAt _ := RowAt.far hK (p := ⟨H, 6, none⟩) (by simp; omega) (.bool true)
  have ho1 := ho.kept (only_setCell (only_refl w (some H)) (p := ⟨H, 6, none⟩) (.inl rfl) (.bool true)) (.inr fun e => nv H (Nat.le_refl _) e.symm)
  have hsz : (w.setCell ⟨H, 6, none⟩ (.bool true)).heap.size = w.heap.size := by simp [World.setCell]
  go_enter Tryd.func24, Tryd.ntmps24
  have h1c := hash1 hH
  go_wp2_with (with_reducible refine stop_append ?_)
  unfold Stopped
  generalize w.setCell ⟨H, 6, none⟩ (.bool true) = w1 at *
  have hll := left_length t
  have own1 := ho1.alloc (.cells #[.int .u8 128] 5)
  have r1 : Rd (w1.alloc (.cells #[.int .u8 128] 5)) (fun _ => True) (some ⟨w.heap.size, 0, none⟩) (bs [128#8]) := by rw [← hsz]; exact rd_one w1 128#8 _ trivial
  refine wpList_append_u8 rfl _ _ rfl (H + 1) v (left t) rfl own1 (fun _ => True) (some ⟨w.heap.size, 0, none⟩) 1 1 [128#8] rfl rfl r1 (by simp; omega) (by simp; omega) ?_
  intro v2 w2 ho2 gr2 hv2
  have hH2 := (hH1.alloc (.cells #[.int .u8 128] 5)).grown gr2 (nv H (Nat.le_refl _))
  have hS2 := (hS1.alloc (.cells #[.int .u8 128] 5)).grown gr2 (nv S (by omega))
  have hK2 : RksAt w2 := RowAt.grown (RowAt.alloc hK1 (.cells #[.int .u8 128] 5)) gr2 (nv 1 (by omega))
  have g2 := (g1.alloc (.cells #[.int .u8 128] 5)).trans (Chg.of_grown (K := fun b => b = H ∨ b = S ∨ some b = v.ownBlock) gr2 fun b _ e => .inr (.inr e))
  have wv : v2.ownBlock = v.ownBlock ∨ v2.ownBlock = some (w1.heap.size + 1) := by simpa using hv2
  have hv3 : ∀ b, b < w.heap.size → some b = v2.ownBlock → b = H ∨ b = S ∨ some b = v.ownBlock := fun b hb e => by
    rcases wv with h | h
    · exact .inr (.inr (e.trans h))
    · rw [h] at e; injection e with e; omega
  clear hH hH1 hS hS1 hK hK1 ho ho1 own1 f6 h6 h1c gr2 hv2 g1
  have F0 : FinI H S v t st w (left t ++ [128#8] ++ List.replicate 0 0#8) v2 w2 := ⟨by rw [List.replicate_zero, List.append_nil]; exact ho2, hH2, hS2, hK2, g2, hv3⟩
  clear ho2 hH2 hS2 hK2 g2 hv3 wv r1
  have hz : zeros t.length < 64 := by unfold zeros; omega
  go_wp2_with fail
  go_loopw [2] (fun b wr => ∃ k : Nat, k ≤ zeros t.length ∧ FinI H S v t st w (left t ++ [128#8] ++ List.replicate k 0#8) b wr) (fun b _ => match b with | .slice _ n _ => 200 - n | _ => 0)
  case atStart => exact ⟨0, by omega, F0⟩
  case round =>
    clear F0
    obtain ⟨k, hk, F⟩ := hrel
    obtain ⟨ll, El⟩ : ∃ x, x = (left t ++ [128#8] ++ List.replicate k 0#8) := ⟨_, rfl⟩
    rw [← El] at F
    have len : ll.length = t.length % 64 + 1 + k := by rw [El]; simp only [List.length_append, List.length_singleton, List.length_replicate, hll]
    have bl : ll.length < 200 := by omega
    obtain ⟨Ab, cb, rfl, hcb⟩ := F.own.form
    by_cases hlk : k < zeros t.length
    · have T : ((ll.length : Int) % 64 != 56) = true := by
        rw [bne_iff_ne]
        unfold zeros at hlk
        omega
      have HL := hide (And.intro El len)
      clear El len
      go_wp2_with (with_reducible refine stop_append ?_)
      unfold Stopped
      have r1 : Rd (wr.alloc (.cells #[.int .u8 0] 5)) (fun _ => True) (some ⟨wr.heap.size, 0, none⟩) (bs [0#8]) := rd_one wr 0#8 _ trivial
      refine wpList_append_u8 rfl _ _ rfl (H + 1) _ ll rfl (F.own.alloc _) (fun _ => True) (some ⟨wr.heap.size, 0, none⟩) 1 1 [0#8] rfl rfl r1 (by simp; omega) (by have := F.hash.lt; simp; omega) ?_
      intro v3 w3 ho3 gr3 hv3
      have F3 := F.more hlt h1 #[.int .u8 0] ho3 gr3 hv3
      obtain ⟨A3, c3, rfl, hc3⟩ := ho3.form
      rw [show (ll ++ [0#8]).length = ll.length + 1 by simp] at F3
      go_wp2_with fail
      go_roundw
      case rel => have HL2 := HL.out; exact ⟨k + 1, by have := HL2.2; omega, by rw [List.replicate_succ', ← List.append_assoc, ← HL2.1]; exact F3⟩
      case measure => simp; omega
    · have T : ((ll.length : Int) % 64 != 56) = false := by
        rw [bne_eq_false_iff_eq]
        unfold zeros at hlk hk
        omega
      have ek : k = zeros t.length := by omega
      have HL := hide (And.intro El (And.intro len ek))
      clear El len ek hk hlk
      go_wp2_with fail
      go_loopw [2, 3] (fun b i wr => ∃ j : Nat, j ≤ 8 ∧ i = .int .i64 (7 - (j : Int)) ∧ FinI H S v t st w (ll ++ (len8 t.length).take j) b wr) (fun _ i _ => (intOf i + 1).toNat)
      case atStart => exact ⟨0, by omega, rfl, by rw [List.take_zero, List.append_nil]; exact F⟩
      case round =>
        clear F hcb
        obtain ⟨j, hj, rfl, F⟩ := hrel
        by_cases hj8 : j < 8
        · obtain ⟨e, ee⟩ : ∃ e : Nat, (7 : Int) - (j : Int) = (e : Int) := ⟨7 - j, by omega⟩
          rw [ee]
          have he : (e : Int) ≤ 7 := by omega
          have HEJ := hide ee
          clear ee
          have c2 := hash2 F.hash
          have W1 : IntKind.u64.wrap (8 * (t.length : Int)) = 8 * (t.length : Int) := by rw [IntKind.wrap_u64]; omega
          have W2 : IntKind.i64.wrap (8 * (e : Int)) = 8 * (e : Int) := by rw [IntKind.wrap_i64]; omega
          go_wp2_with (with_reducible refine stop_append ?_)
          unfold Stopped
          have V : 8 * (t.length : Int) / 2 ^ (8 * e) % 256 = ((BitVec.ofNat 8 ((8 * t.length % 18446744073709551616) / 2 ^ (8 * (7 - j)))).toNat : Int) := by
            have ee := HEJ.out
            rw [show 7 - j = e by omega, Nat.mod_eq_of_lt (by omega), BitVec.toNat_ofNat]
            push_cast
            rfl
          rw [V]
          clear V
          obtain ⟨cc, Ecc⟩ : ∃ x, x = BitVec.ofNat 8 ((8 * t.length % 18446744073709551616) / 2 ^ (8 * (7 - j))) := ⟨_, rfl⟩
          rw [← Ecc]
          have HC := hide Ecc
          clear Ecc
          have l8 : (ll ++ (len8 t.length).take j).length ≤ 300 := by rw [List.length_append, List.length_take]; omega
          refine wpList_append_u8 rfl _ _ rfl (H + 1) u2 (ll ++ (len8 t.length).take j) rfl (F.own.alloc _) (fun _ => True) (some ⟨wr.heap.size, 0, none⟩) 1 1 [cc] rfl rfl (rd_one wr cc _ trivial) (by simp only [List.length_singleton]; omega) (by have := F.hash.lt; simp; omega) ?_
          intro v3 w3 ho3 gr3 hv3
          have F3 := F.more hlt h1 #[.int .u8 (cc.toNat : Int)] ho3 gr3 hv3
          have HF := hide F3
          clear F3 F ho3 gr3 hv3 c2
          go_wp2_with fail
          go_roundw
          case rel =>
            have ee := HEJ.out
            exact ⟨j + 1, by omega, by go_num, by rw [len8_take _ _ hj8, ← HC.out, ← List.append_assoc]; exact HF.out⟩
          case measure => simp [intOf]
        · have c0 := hash0 F.hash
          have e8 : j = 8 := by omega
          subst e8
          have et : ll ++ (len8 t.length).take 8 = left t ++ tail t.length := by
            obtain ⟨q1, q2, q3⟩ := HL.out
            rw [q1, q3, show (len8 t.length).take 8 = len8 t.length from rfl, tail]
            simp
          rw [et] at F
          obtain ⟨A5, c5, rfl, hc5⟩ := F.own.form
          have ll5 : (left t ++ tail t.length).length ≤ 200 := by rw [List.length_append, tail_length]; omega
          have rd5 : Rd wr (· ≠ S) A5 (bs (left t ++ tail t.length)) := F.own.rd fun g hg _ _ => by omega
          have HT := hide (digest_left t)
          generalize left t ++ tail t.length = lt at *
          go_wp2_with fail
          refine (blocks_any S (blks wFirst t) A5 c5 lt (· ≠ S) wr F.state F.rks rd5 (fun _ h => h) (by omega) hc5 (by omega)).mono ?_
          rintro e w5 ⟨A6, c6, rfl, hc6, rd6, hS6, gr6⟩
          have hH6 := F.hash.grown gr6 (by simp; omega)
          have c60 := hash0 hH6
          have c61 := hash1 hH6
          have g6 := F.chg.trans' (Chg.of_grown (K := fun b => b = H ∨ b = S ∨ some b = v.ownBlock) gr6 fun b _ e => .inr (.inl (by injection e))) fun _ _ e => e
          go_wp2_with fail
          refine (key_any S (blks (blks wFirst t) lt) w5 hS6).mono ?_
          rintro e w7 ⟨rfl, b7⟩
          have hH7 := hH6.below b7 hH6.lt
          have g7 := g6.trans' (Chg.of_below (K := fun b => w5.heap.size ≤ b) b7 fun b _ h => h) fun b hb hx => by have := g6.size; omega
          rw [HT.out, show (blks wFirst (pad t)).key = digest t from rfl]
          have dl : (digest t).length = 32 := key_length _
          have dl2 : (bs (digest t)).toArray.size = 32 := by rw [List.size_toArray, bs_length, dl]
          have HD := hide dl2
          have HD1 := hide dl
          clear dl dl2
          go_wp2_with (with_reducible refine stop_store_key ?_)
          refine wpList_store_mid rfl _ _ _ rfl H 7 (bs (digest t)).toArray rfl rfl (by rw [HD.out]; exact hash_there hH7) (by rw [HD.out]; kernel_rfl) (all_oneCell_toArray (bs_one _)) ?_
          have hH9 := hashC_key S v t.length 0 st true nokey (digest t) w7 H (by rw [HD1.out]; rfl) hH7
          have g9 := Chg.setCells (K := fun b => b = H ∨ b = S ∨ some b = v.ownBlock) (g := H) (fun _ => .inl rfl) (bs (digest t)) 7 w7 g7
          go_wp2
          first | go_end0 | (simp only [Exit.inBlock, Exit.then]; refine bodyPost_ret (results_none rfl _ _ _) rfl ?_) | refine bodyPost_ret (results_none rfl _ _ _) rfl ?_
          exact ⟨rfl, hH9, g9⟩

/-- A hash of t that has been told. -/
structure IsT (w : World) (H S : Nat) (v : Value) (t : List B8) : Prop where
  hash : Blk w H 48 (hashC S v t.length 1 0 true (digest t))
  lt : S < H

theorem call_finish (args : Array Value) (w : World) : (callFunc 24 args).run Tryd.prog w = .ok (.enter 24 args) w := by kernel_rfl

set_option maxRecDepth 100000 in
set_option maxHeartbeats 1600000 in
theorem sum_first (H S : Nat) (v : Value) (t : List B8) (w : World) (h : IsH w H S v t) (hK : RksAt w) (hb : t.length ≤ 1099511627776) :
    Calls Tryd.prog 15 #[.pointer (some ⟨H, 0, none⟩)] w fun e w' => e = .returned (.agg (bs (digest t)).toArray) ∧ IsT w' H S v t ∧ Chg (fun b => b = H ∨ b = S ∨ some b = v.ownBlock) w w' := by
  have B1 := Blk.new w 26 (bs nokey).toArray
  have hz : (w.alloc (.cells (bs nokey).toArray 26)).heap.size = w.heap.size + 1 := by simp
  have hH1 := h.hash.alloc (.cells (bs nokey).toArray 26)
  have hS1 := h.state.alloc (.cells (bs nokey).toArray 26)
  have ho1 := h.own.alloc (.cells (bs nokey).toArray 26)
  have hK1 : RksAt (w.alloc (.cells (bs nokey).toArray 26)) := RowAt.alloc hK _
  have hHl := h.hash.lt
  have hSl := h.state.lt
  have g1 := (Chg.refl (fun b => b = H ∨ b = S ∨ some b = v.ownBlock) w).alloc (.cells (bs nokey).toArray 26)
  have hlt := h.lt
  have h1 := h.one
  have nv : ∀ b, b ≤ H → some b ≠ v.ownBlock := fun b hb e => by have := (h.own.lt b e.symm).1; omega
  have vlt : ∀ g, v.ownBlock = some g → g < w.heap.size := fun g e => (h.own.lt g e).2
  have c0 := hash0 h.hash
  have hH2 := hH1.set_ 4 (.int .i32 1)
  rw [hashC_st] at hH2
  have hS2 := hS1.far (p := ⟨H, 4, none⟩) (by simp; omega) (.int .i32 1)
  have hK2 : RksAt _ := RowAt.far hK1 (p := ⟨H, 4, none⟩) (by simp; omega) (.int .i32 1)
  have ho2 := ho1.kept (only_setCell (only_refl (w.alloc (.cells (bs nokey).toArray 26)) (some H)) (p := ⟨H, 4, none⟩) (.inl rfl) (.int .i32 1)) (.inr fun e => nv H (Nat.le_refl _) e.symm)
  have g2 := g1.setCell (p := ⟨H, 4, none⟩) (fun _ => .inl rfl) (.int .i32 1)
  have B2 := B1.far (p := ⟨H, 4, none⟩) (by simp; omega) (.int .i32 1)
  have D := hide (do_first H 3 24 #[.pointer (some ⟨H, 0, none⟩)] (w.alloc (.cells (bs nokey).toArray 26))
    (fun w' => Blk w' H 48 (hashC S v t.length 0 1 true (digest t)) ∧ Blk w' w.heap.size 26 (bs nokey).toArray ∧ Chg (fun b => b = H ∨ b = S ∨ some b = v.ownBlock) w w') call_finish (hash3 hH1) (hash4 hH1) (hH1.frozen 4)
    ((finish_any H S v t 1 _ hH2 hS2 ho2 hlt h1 hK2 hb).mono fun e w' hw => ⟨hw.1, hw.2.1, hw.2.2.blk B2 (fun hh => hh.elim (fun e => by omega) fun hh => hh.elim (fun e => by omega) fun e => absurd (vlt _ e.symm) (by omega)), g2.trans hw.2.2⟩)
    (fun w' hw => ⟨hash3 hw.1, hash4 hw.1, hw.1.frozen 3, hw.1.frozen 4⟩))
  clear hH2 hS2 hK2 ho2 g2 B2 hH1 hS1 ho1 hK1 g1 hz
  go_enter Tryd.func15, Tryd.ntmps15
  go_wp2_with (first | (go_at_call 23; refine Calls.mono D.out ?_; rintro e w4 ⟨rfl, w3, ⟨hH3, hB3, g3⟩, rfl⟩) | (with_reducible refine stop_load_mid ?_))
  unfold Stopped
  have hH4 := (hH3.drew.set_ 3 (.int .u32 1)).set_ 4 (.int .i32 0)
  rw [hashC_dn, hashC_st] at hH4
  have hB4 := (hB3.drew.far (p := ⟨H, 3, none⟩) (by simp; omega) (.int .u32 1)).far (p := ⟨H, 4, none⟩) (by simp; omega) (.int .i32 0)
  have g4 := (g3.drew.setCell (p := ⟨H, 3, none⟩) (fun _ => .inl rfl) (.int .u32 1)).setCell (p := ⟨H, 4, none⟩) (fun _ => .inl rfl) (.int .i32 0)
  have dl : (bs (digest t)).length = 32 := by rw [bs_length]; exact key_length _
  have HD := hide dl
  clear D hH3 hB3 g3 dl
  unfold onceEnd
  generalize (w3.drew.setCell ⟨H, 3, none⟩ (.int .u32 1)).setCell ⟨H, 4, none⟩ (.int .i32 0) = w4 at *
  refine wpList_load_mid rfl _ _ rfl H 7 rfl (bs (digest t)) _ (hash_range hH4) Tryd.underlying26 rfl (by rw [HD.out]; kernel_rfl) ?_
  refine wpList_store_row rfl _ _ _ rfl w.heap.size (bs (digest t)).toArray rfl rfl _ _ hB4 (by rw [List.size_toArray, HD.out]; kernel_rfl) (by rw [List.size_toArray, List.size_toArray, HD.out]; rfl) (all_oneCell_toArray (bs_one _)) ?_
  have B5 : Blk (w4.setRow w.heap.size (bs (digest t)).toArray) w.heap.size 26 (bs (digest t)).toArray := setRow_heap w4 _ _ _ _ _ hB4
  have so : ∀ k, k ≠ w.heap.size → (w4.setRow w.heap.size (bs (digest t)).toArray).heap[k]? = w4.heap[k]? := fun k hk => setRow_other w4 _ _ _ hk
  have hH5 : Blk (w4.setRow w.heap.size (bs (digest t)).toArray) H 48 (hashC S v t.length 1 0 true (digest t)) := (so H (by omega)).trans hH4
  have g5 : Chg (fun b => b = H ∨ b = S ∨ some b = v.ownBlock) w (w4.setRow w.heap.size (bs (digest t)).toArray) :=
    g4.trans' (K' := fun b => b = w.heap.size) ⟨rfl, rfl, rfl, by simp, fun b _ hb => so b hb⟩ fun b hb e => by omega
  generalize w4.setRow w.heap.size (bs (digest t)).toArray = w5 at *
  go_wp2
  refine bodyPost_ret (v := .agg (bs (digest t)).toArray) ?_ rfl ⟨rfl, ⟨hH5, hlt⟩, g5⟩
  exact results_cell_row rfl _ _ w.heap.size _ _ _ _ rfl B5 Tryd.underlying26 rfl (by rw [List.size_toArray, HD.out]; kernel_rfl)

set_option maxRecDepth 100000 in
theorem sum_again (H S : Nat) (v : Value) (t : List B8) (w : World) (h : IsT w H S v t) :
    Calls Tryd.prog 15 #[.pointer (some ⟨H, 0, none⟩)] w fun e w' => e = .returned (.agg (bs (digest t)).toArray) ∧ Below w.heap.size w w' := by
  have B1 := Blk.new w 26 (bs nokey).toArray
  have hH1 := h.hash.alloc (.cells (bs nokey).toArray 26)
  have hHl := h.hash.lt
  have c0 := hash0 h.hash
  have b1 : Below w.heap.size w (w.alloc (.cells (bs nokey).toArray 26)) := (Below.refl _ _).alloc (Nat.le_refl _) _
  have D := hide (do_done ⟨H, 3, none⟩ (.func (.func 24) #[.pointer (some ⟨H, 0, none⟩)] #[]) (w.alloc (.cells (bs nokey).toArray 26)) (hash3 hH1))
  have dl : (bs (digest t)).length = 32 := by rw [bs_length]; exact key_length _
  have HD := hide dl
  clear dl
  go_enter Tryd.func15, Tryd.ntmps15
  go_wp2_with (first | (go_at_call 23; refine Calls.mono D.out ?_; rintro e w4 ⟨rfl, rfl⟩) | (with_reducible refine stop_load_mid ?_))
  unfold Stopped
  refine wpList_load_mid rfl _ _ rfl H 7 rfl (bs (digest t)) _ (hash_range hH1) Tryd.underlying26 rfl (by rw [HD.out]; kernel_rfl) ?_
  refine wpList_store_row rfl _ _ _ rfl w.heap.size (bs (digest t)).toArray rfl rfl _ _ B1 (by rw [List.size_toArray, HD.out]; kernel_rfl) (by rw [List.size_toArray, List.size_toArray, HD.out]; rfl) (all_oneCell_toArray (bs_one _)) ?_
  rw [World.setRow_alloc_new]
  have B5 := Blk.new w 26 (bs (digest t)).toArray
  have b5 : Below w.heap.size w (w.alloc (.cells (bs (digest t)).toArray 26)) := (Below.refl _ _).alloc (Nat.le_refl _) _
  go_wp2
  refine bodyPost_ret (v := .agg (bs (digest t)).toArray) ?_ rfl ⟨rfl, b5⟩
  exact results_cell_row rfl _ _ w.heap.size _ _ _ _ rfl B5 Tryd.underlying26 rfl (by rw [List.size_toArray, HD.out]; kernel_rfl)
end Go.Proofs.YtdkcjmpikmnedaaDoor
