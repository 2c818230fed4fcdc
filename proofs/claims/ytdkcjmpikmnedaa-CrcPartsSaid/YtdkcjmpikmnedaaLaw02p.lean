/- CrcParts, walked. -/
import Derived.Test.YtdkcjmpikmnedaaLaw02
import Derived.Deep.RegionHeld3
namespace Go.Proofs.Ytdkcjmpikmnedaa
open Go.RowKit

/-- What is known between two calls. -/
structure PI (w0 w : World) (g : Nat) (p : B32) (A1 A2 A3 : Option Addr) (a b c : List B8) : Prop where
  tab : IsTab w g p
  ra : Rd w (· < w0.heap.size) A1 (bs a)
  rb : Rd w (· < w0.heap.size) A2 (bs b)
  rc : Rd w (· < w0.heap.size) A3 (bs c)
  below : Below w0.heap.size w0 w
  gw : w0.heap.size ≤ g
section
variable {w0 w w' : World} {g : Nat} {p : B32} {A1 A2 A3 : Option Addr} {a b c : List B8}
theorem PI.step (h : PI w0 w g p A1 A2 A3 a b c) (o : w.grownBy w' (some g)) (t : IsTab w' g p) : PI w0 w' g p A1 A2 A3 a b c := by
  have gw := h.gw
  exact ⟨t, h.ra.only o (fun b hb => by simp; omega), h.rb.only o (fun b hb => by simp; omega), h.rc.only o (fun b hb => by simp; omega), h.below.trans (below_of_only o gw h.below.size), gw⟩
theorem PI.quiet (h : PI w0 w g p A1 A2 A3 a b c) (o : Below w.heap.size w w') : PI w0 w' g p A1 A2 A3 a b c := by
  have hs := h.below.size
  exact ⟨h.tab.below o, h.ra.below o (fun b hb _ => hb), h.rb.below o (fun b hb _ => hb), h.rc.below o (fun b hb _ => hb), h.below.trans (o.mono hs), h.gw⟩
theorem PI.other {d : Nat} (h : PI w0 w g p A1 A2 A3 a b c) (o : w.grownBy w' (some d)) (hne : g ≠ d) (hd : w0.heap.size ≤ d) : PI w0 w' g p A1 A2 A3 a b c := by
  have hs := h.below.size
  exact ⟨h.tab.only o (by simpa using hne), h.ra.only o (fun b hb => by simp; omega), h.rb.only o (fun b hb => by simp; omega), h.rc.only o (fun b hb => by simp; omega), h.below.trans (below_of_only o hd hs), h.gw⟩
theorem PI.drew (h : PI w0 w g p A1 A2 A3 a b c) : PI w0 w.drew g p A1 A2 A3 a b c := h.quiet ((Below.refl _ _).drew)
end

/-- Add of the table, of a part. -/
theorem tadd_pi {w0 w : World} {g : Nat} {p : B32} {A1 A2 A3 : Option Addr} {a b c : List B8} (I : PI w0 w g p A1 A2 A3 a b c) (s : B32) (A : Option Addr) (n k : Nat) (l : List B8) (hn : l.length = n) (hr : Rd w (· < w0.heap.size) A (bs l)) (hl : l.length ≤ 140737488351232) :
    Calls Try.prog 29 #[.pointer (some ⟨g, 0, none⟩), .int .u32 s.toNat, .slice A n k] w fun e w' => e = .returned (.int .u32 (crcOf p s l).toNat) ∧ PI w0 w' g p A1 A2 A3 a b c ∧ w.grownBy w' (some g) := by
  subst hn
  have gw := I.gw
  exact (tadd_any g p s A k l w I.tab (hr.imp fun _ _ hb => by omega) hl).mono fun _ _ ⟨he, ht, ho⟩ => ⟨he, I.step ho ht.tab, ho⟩
theorem tadd_a {w0 w : World} {g : Nat} {p : B32} {A1 A2 A3 : Option Addr} {a b c : List B8} (I : PI w0 w g p A1 A2 A3 a b c) (s : B32) (n k : Nat) (hn : n ≤ a.length) (hl : a.length ≤ 140737488351232) :
    Calls Try.prog 29 #[.pointer (some ⟨g, 0, none⟩), .int .u32 s.toNat, .slice A1 n k] w fun e w' => e = .returned (.int .u32 (crcOf p s (a.take n)).toNat) ∧ PI w0 w' g p A1 A2 A3 a b c ∧ w.grownBy w' (some g) :=
  tadd_pi I s A1 n k (a.take n) (by simp; omega) (by rw [bs_take]; exact I.ra.take n) (by simp; omega)
theorem tadd_s {w0 w : World} {g : Nat} {p : B32} {A1 A2 A3 : Option Addr} {a b c : List B8} (I : PI w0 w g p A1 A2 A3 a b c) (s : B32) (q k c1 : Nat) (A' : Option Addr) (hA : Hid ((if c1 = q then A1 else Option.map (fun x => x.add q) A1) = A')) (hc : a.length ≤ c1) (hl : a.length ≤ 140737488351232) :
    Calls Try.prog 29 #[.pointer (some ⟨g, 0, none⟩), .int .u32 s.toNat, .slice A' (a.length - q) k] w fun e w' => e = .returned (.int .u32 (crcOf p s (a.drop q)).toNat) ∧ PI w0 w' g p A1 A2 A3 a b c ∧ w.grownBy w' (some g) :=
  tadd_pi I s A' (a.length - q) k (a.drop q) (by simp) (by rw [bs_drop, ← hA.out]; exact I.ra.cut q c1 (by simpa using hc)) (by simp; omega)
theorem add_a {w0 w : World} {g : Nat} {p : B32} {A1 A2 A3 : Option Addr} {a b c : List B8} (I : PI w0 w g p A1 A2 A3 a b c) (s : B32) (n k : Nat) (hn : n ≤ a.length) (hl : a.length ≤ 140737488351232) :
    Calls Try.prog 24 #[.int .u32 s.toNat, .slice A1 n k] w fun e w' => e = .returned (.int .u32 (crcOf castagnoli s (a.take n)).toNat) ∧ PI w0 w' g p A1 A2 A3 a b c := by
  have H := add_any s A1 k (a.take n) (· < w0.heap.size) w (by rw [bs_take]; exact I.ra.take n) (by simp; omega)
  rw [show (a.take n).length = n by simp; omega] at H
  exact H.mono fun _ _ ⟨he, hb⟩ => ⟨he, I.quiet hb⟩
theorem add_s {w0 w : World} {g : Nat} {p : B32} {A1 A2 A3 : Option Addr} {a b c : List B8} (I : PI w0 w g p A1 A2 A3 a b c) (s : B32) (q k c1 : Nat) (A' : Option Addr) (hA : Hid ((if c1 = q then A1 else Option.map (fun x => x.add q) A1) = A')) (hc : a.length ≤ c1) (hl : a.length ≤ 140737488351232) :
    Calls Try.prog 24 #[.int .u32 s.toNat, .slice A' (a.length - q) k] w fun e w' => e = .returned (.int .u32 (crcOf castagnoli s (a.drop q)).toNat) ∧ PI w0 w' g p A1 A2 A3 a b c := by
  have := add_any s A' k (a.drop q) (· < w0.heap.size) w (by rw [bs_drop, ← hA.out]; exact I.ra.cut q c1 (by simpa using hc)) (by simp; omega)
  rw [List.length_drop] at this
  exact this.mono fun _ _ ⟨he, hb⟩ => ⟨he, I.quiet hb⟩
theorem sum_a {w0 w : World} {g : Nat} {p : B32} {A1 A2 A3 : Option Addr} {a b c : List B8} (I : PI w0 w g p A1 A2 A3 a b c) (k : Nat) (hl : a.length ≤ 140737488351232) :
    Calls Try.prog 22 #[.slice A1 a.length k] w fun e w' => e = .returned (.int .u32 (crcOf castagnoli 0#32 a).toNat) ∧ PI w0 w' g p A1 A2 A3 a b c :=
  (sum_any A1 k a (· < w0.heap.size) w I.ra hl).mono fun _ _ ⟨he, hb⟩ => ⟨he, I.quiet hb⟩
theorem tadd_b {w0 w : World} {g : Nat} {p : B32} {A1 A2 A3 : Option Addr} {a b c : List B8} (I : PI w0 w g p A1 A2 A3 a b c) (s : B32) (n k : Nat) (hn : n ≤ b.length) (hl : n ≤ 140737488351232) :
    Calls Try.prog 29 #[.pointer (some ⟨g, 0, none⟩), .int .u32 s.toNat, .slice A2 n k] w fun e w' => e = .returned (.int .u32 (crcOf p s (b.take n)).toNat) ∧ PI w0 w' g p A1 A2 A3 a b c ∧ w.grownBy w' (some g) :=
  tadd_pi I s A2 n k (b.take n) (by simp; omega) (by rw [bs_take]; exact I.rb.take n) (by simp; omega)
theorem tadd_d {w0 w : World} {g gd cap : Nat} {p : B32} {A1 A2 A3 : Option Addr} {a b c : List B8} (I : PI w0 w g p A1 A2 A3 a b c) (s : B32) (d : List B8) (n : Nat) (hd : RowB w gd cap d) (hn : d.length = n) (hne : gd ≠ g) (hl : n ≤ 140737488351232) :
    Calls Try.prog 29 #[.pointer (some ⟨g, 0, none⟩), .int .u32 s.toNat, .slice (some ⟨gd, 0, none⟩) n cap] w fun e w' => e = .returned (.int .u32 (crcOf p s d).toNat) ∧ PI w0 w' g p A1 A2 A3 a b c ∧ w.grownBy w' (some g) := by
  subst hn
  exact (tadd_any g p s (some ⟨gd, 0, none⟩) cap d w I.tab (hd.rd hne) hl).mono fun _ _ ⟨he, ht, ho⟩ => ⟨he, I.step ho ht.tab, ho⟩
/-- The row that has the bits of an odd number of the three, as far as place k. -/
def oddTo (a b c : List B8) (n k : Nat) : List B8 := (xorl (xorl (a.take n) (b.take n)) (c.take n)).take k ++ List.replicate (n - k) 0#8
theorem odd_length (a b c : List B8) (n : Nat) (ha : n ≤ a.length) (hb : n ≤ b.length) (hc : n ≤ c.length) : (xorl (xorl (a.take n) (b.take n)) (c.take n)).length = n := by simp [xorl]; omega
theorem oddTo_length (a b c : List B8) (n k : Nat) (ha : n ≤ a.length) (hb : n ≤ b.length) (hc : n ≤ c.length) (hk : k ≤ n) : (oddTo a b c n k).length = n := by
  unfold oddTo
  rw [List.length_append, List.length_take, odd_length a b c n ha hb hc, List.length_replicate]; omega
theorem oddTo_set (a b c : List B8) (n k : Nat) (ha : n ≤ a.length) (hb : n ≤ b.length) (hc : n ≤ c.length) (hk : k < n) :
    (oddTo a b c n k).set k (a[k] ^^^ b[k] ^^^ c[k]) = oddTo a b c n (k + 1) := by
  have hlen := odd_length a b c n ha hb hc
  have hget : (xorl (xorl (a.take n) (b.take n)) (c.take n))[k]'(by omega) = a[k] ^^^ b[k] ^^^ c[k] := by simp [xorl]
  unfold oddTo
  rw [List.set_append_right _ _ (by rw [List.length_take]; omega), take_snoc _ k (by omega), hget, List.append_assoc]
  congr 1
  rw [List.length_take, hlen, Nat.min_eq_left (by omega), Nat.sub_self, show n - k = (n - (k + 1)) + 1 by omega, List.replicate_succ]
  rfl
theorem oddTo_all (a b c : List B8) (n : Nat) (ha : n ≤ a.length) (hb : n ≤ b.length) (hc : n ≤ c.length) : oddTo a b c n n = xorl (xorl (a.take n) (b.take n)) (c.take n) := by
  unfold oddTo
  rw [List.take_of_length_le (by rw [odd_length a b c n ha hb hc]; exact Nat.le_refl _), Nat.sub_self, List.replicate_zero, List.append_nil]
theorem tadd_c {w0 w : World} {g : Nat} {p : B32} {A1 A2 A3 : Option Addr} {a b c : List B8} (I : PI w0 w g p A1 A2 A3 a b c) (s : B32) (n k : Nat) (hn : n ≤ c.length) (hl : n ≤ 140737488351232) :
    Calls Try.prog 29 #[.pointer (some ⟨g, 0, none⟩), .int .u32 s.toNat, .slice A3 n k] w fun e w' => e = .returned (.int .u32 (crcOf p s (c.take n)).toNat) ∧ PI w0 w' g p A1 A2 A3 a b c ∧ w.grownBy w' (some g) :=
  tadd_pi I s A3 n k (c.take n) (by simp; omega) (by rw [bs_take]; exact I.rc.take n) (by simp; omega)

set_option maxRecDepth 100000 in
set_option maxHeartbeats 800000 in
theorem crcParts_any (p s : B32) (A1 A2 A3 : Option Addr) (c1 c2 c3 : Nat) (a b c : List B8) (cut : Int) (w : World) (hca : a.length ≤ c1) (hcb : b.length ≤ c2) (hcc : c.length ≤ c3)
    (ha : Rd w (fun _ => True) A1 (bs a)) (hb : Rd w (fun _ => True) A2 (bs b)) (hc : Rd w (fun _ => True) A3 (bs c)) :
    Calls Try.prog 7 #[.int .u32 p.toNat, .int .u32 s.toNat, .slice A1 a.length c1, .slice A2 b.length c2, .slice A3 c.length c3, .int .i64 cut] w fun e w' => e = .returned (.bool true) ∧ Below w.heap.size w w' := by
  by_cases hl : a.length ≤ 50000
  · have hp := pick_range cut ((a.length : Int) + 1) (by omega)
    obtain ⟨q', hpe⟩ : ∃ q, q = pick cut ((a.length : Int) + 1) := ⟨_, rfl⟩
    rw [← hpe] at hp
    obtain ⟨q, rfl⟩ := Int.eq_ofNat_of_zero_le hp.1
    have HP := hide hpe
    clear hpe
    obtain ⟨m1, hm1, hm1a, hm1b⟩ : ∃ m : Nat, (if b.length < a.length then (b.length : Int) else (a.length : Int)) = (m : Int) ∧ m ≤ a.length ∧ m ≤ b.length := ⟨min a.length b.length, by split <;> omega, by omega, by omega⟩
    obtain ⟨n, hn, hnm, hnc⟩ : ∃ m : Nat, (if c.length < m1 then (c.length : Int) else (m1 : Int)) = (m : Int) ∧ m ≤ m1 ∧ m ≤ c.length := ⟨min m1 c.length, by split <;> omega, by omega, by omega⟩
    go_enter Try.func7, Try.ntmps7
    go_wp2_with fail
    refine (awake_any w).mono ?_
    rintro e w1 ⟨rfl, hb1⟩
    go_wp2_with fail
    refine (new_any p w1).mono ?_
    rintro e w2 ⟨rfl, hw2⟩
    obtain ⟨g, hg⟩ : ∃ g, g = w1.heap.size := ⟨_, rfl⟩
    have b12 : Below w1.heap.size w1 w2 := by rw [← hw2]; exact (Below.refl _ _).alloc (Nat.le_refl _) _
    have I2 : PI w w2 g p A1 A2 A3 a b c := by
      have hs := hb1.size
      refine ⟨by rw [hg, ← hw2]; exact isTab_new _ _, ?_, ?_, ?_, hb1.trans (b12.mono hs), by omega⟩
      · exact ((ha.old hb1).below b12 (fun b hb _ => hb)).imp fun b _ hb => hb.2
      · exact ((hb.old hb1).below b12 (fun b hb _ => hb)).imp fun b _ hb => hb.2
      · exact ((hc.old hb1).below b12 (fun b hb _ => hb)).imp fun b _ hb => hb.2
    rw [← hg]
    clear hw2 hg b12 hb1 ha hb hc
    go_wp2_with fail
    refine (pick_any cut ((a.length : Int) + 1) w2 (by omega)).mono ?_
    rintro e w2' ⟨rfl, rfl⟩
    rw [← HP.out]
    clear hm1 hn
    go_wp2_with fail
    have hq : q ≤ a.length := by omega
    have hal : a.length ≤ 140737488351232 := by omega
    have I2d := I2.drew
    have f1 : (q : Int) ≤ (c1 : Int) := by omega
    have f2 : (q : Int) ≤ (a.length : Int) := by omega
    have f3 : q ≤ c1 := by omega
    obtain ⟨A', hA⟩ : ∃ A', (if c1 = q then A1 else Option.map (fun x => x.add q) A1) = A' := ⟨_, rfl⟩
    have HA := hide hA
    obtain ⟨x1, hx1⟩ : ∃ x, crcOf p s (a.take q) = x := ⟨_, rfl⟩
    obtain ⟨x, hx⟩ : ∃ x, crcOf p s (a.take a.length) = x := ⟨_, rfl⟩
    obtain ⟨y1, hy1⟩ : ∃ x, crcOf castagnoli s (a.take q) = x := ⟨_, rfl⟩
    obtain ⟨y, hy⟩ : ∃ x, crcOf castagnoli s (a.take a.length) = x := ⟨_, rfl⟩
    obtain ⟨z, hz⟩ : ∃ x, crcOf castagnoli 0#32 (a.take a.length) = x := ⟨_, rfl⟩
    have ea : a.take a.length = a := List.take_of_length_le (Nat.le_refl _)
    have X1 := hide hx1
    have X2 := hide hx
    have Y1 := hide hy1
    have Y2 := hide hy
    have Z := hide hz
    have E1 : Hid (crcOf p x1 (a.drop q) = x) := by
      have e1 := crc_parts p s (a.take q) (a.drop q)
      rw [List.take_append_drop, hx1] at e1
      rw [ea] at hx
      exact e1.trans hx
    have E2 : Hid (crcOf castagnoli y1 (a.drop q) = y) := by
      have e1 := crc_parts castagnoli s (a.take q) (a.drop q)
      rw [List.take_append_drop, hy1] at e1
      rw [ea] at hy
      exact e1.trans hy
    have Z2 : Hid (crcOf castagnoli 0#32 a = z) := by rw [ea] at hz; exact hz
    clear hx1 hx hy1 hy hz ea
    go_region_held3 (fun _ => True) (exact trivial) (first | (go_at_call 29; (with_reducible refine (tadd_a I2d s q c1 hq hal).mono ?_); rw [X1.out]; rintro e w3 ⟨rfl, I3, _⟩) | (go_at_call 29; (with_reducible refine (tadd_s I3 x1 q (c1 - q) c1 A' HA hca hal).mono ?_); rw [E1.out]; rintro e w4 ⟨rfl, I4, _⟩) | (go_at_call 29; (with_reducible refine (tadd_a I4 s a.length c1 (Nat.le_refl _) hal).mono ?_); rw [X2.out]; rintro e w5 ⟨rfl, I5, _⟩) | (go_at_call 24; (with_reducible refine (add_a I5 s q c1 hq hal).mono ?_); rw [Y1.out]; rintro e w6 ⟨rfl, I6⟩) | (go_at_call 24; (with_reducible refine (add_s I6 y1 q (c1 - q) c1 A' HA hca hal).mono ?_); rw [E2.out]; rintro e w7 ⟨rfl, I7⟩) | (go_at_call 24; (with_reducible refine (add_a I7 s a.length c1 (Nat.le_refl _) hal).mono ?_); rw [Y2.out]; rintro e w8 ⟨rfl, I8⟩) | (go_at_call 22; (with_reducible refine (sum_a I8 c1 hal).mono ?_); rw [Z2.out]; rintro e w9 ⟨rfl, I9⟩) | (go_at_call 24; refine (add_a I9 0#32 a.length c1 (Nat.le_refl _) hal).mono ?_; rw [Z.out]; rintro e w10 ⟨rfl, I10⟩))
    clear X1 X2 Y1 Y2 Z E1 E2 Z2 HA hA f1 f2 f3 I2d I2 I3 I4 I5 I6 I7 I8 I9
    go_wp2_with (with_reducible refine stop_make ?_)
    unfold Stopped
    refine wpList_make_u8_full rfl _ _ rfl _ _ n rfl rfl rfl rfl (by omega) ?_
    intro w11 hrow11 hg11
    have I11 := I10.quiet (below_of_none hg11)
    obtain ⟨gd, hgd⟩ : ∃ gd, gd = w10.heap.size := ⟨_, rfl⟩
    have gdw : w.heap.size ≤ gd := by have := I10.below.size; omega
    have gdg : g ≠ gd := by have := I10.tab.lt; omega
    rw [← hgd] at hrow11 ⊢
    clear hg11 I10 hgd
    go_wp2_with fail
    go_loopw [16] (fun i wr => ∃ k : Nat, k ≤ n ∧ i = .int .i64 k ∧ RowB wr gd n (oddTo a b c n k) ∧ PI w wr g p A1 A2 A3 a b c) (fun i _ => n - (intOf i).toNat)
    case atStart => exact ⟨0, by omega, rfl, by simpa [oddTo] using hrow11, I11⟩
    case round =>
      obtain ⟨k, hk, rfl, hrowk, Ik⟩ := hrel
      by_cases hlt : k < n
      · obtain ⟨b1, o1, rfl, d1, q1⟩ := Ik.ra (by simp; omega)
        have h1 := q1 k (by simp; omega)
        obtain ⟨b2, o2, rfl, d2, q2⟩ := Ik.rb (by simp; omega)
        have h2 := q2 k (by simp; omega)
        obtain ⟨b3, o3, rfl, d3, q3⟩ := Ik.rc (by simp; omega)
        have h3 := q3 k (by simp; omega)
        rw [bs_get] at h1 h2 h3
        clear q1 q2 q3
        have hlen := oddTo_length a b c n k (by omega) (by omega) (by omega) hk
        obtain ⟨u0, hcd⟩ : ∃ u, wr.cell? ⟨gd, k, none⟩ = some u := ⟨_, hrowk.cell k (by omega)⟩
        have hfd := hrowk.frozen k
        have i1 : (k : Int) < (a.length : Int) := by omega
        have i2 : (k : Int) < (b.length : Int) := by omega
        have i3 : (k : Int) < (c.length : Int) := by omega
        have i4 : (k : Int) < (n : Int) := by omega
        have far : ∀ (b o : Nat) (u : Value), b < w.heap.size → (wr.setCell ⟨gd, k, none⟩ u).cell? ⟨b, o, none⟩ = wr.cell? ⟨b, o, none⟩ := fun b o u hb => World.cell?_setCell_other _ _ _ _ (by intro e; injection e; omega)
        have k1 := fun u => (far b1 (o1 + k) u d1).trans h1
        have k2 := fun u => (far b2 (o2 + k) u d2).trans h2
        have k3 := fun u => (far b3 (o3 + k) u d3).trans h3
        have K1 := hide k1
        have K2 := hide k2
        have K3 := hide k3
        clear k1 k2 k3 far hlen
        go_wp2
        go_region_held3 (fun w' => w'.cell? ⟨b1, o1 + k, none⟩ = some (.int .u8 (a[k].toNat : Int)) ∧ w'.cell? ⟨b2, o2 + k, none⟩ = some (.int .u8 (b[k].toNat : Int)) ∧ w'.cell? ⟨b3, o3 + k, none⟩ = some (.int .u8 (c[k].toNat : Int))) (first | exact ⟨h1, h2, h3⟩ | exact ⟨K1.out _, K2.out _, K3.out _⟩) (first | fail)
        go_wp2
        have hs := hrowk.stored k (a[k] ^^^ b[k] ^^^ c[k])
        rw [oddTo_set a b c n k (by omega) (by omega) (by omega) hlt] at hs
        have ex : bits .xor .u8 (bits .xor .u8 (a[k].toNat : Int) (b[k].toNat : Int)) (c[k].toNat : Int) = ((a[k] ^^^ b[k] ^^^ c[k]).toNat : Int) := by rw [u8_xor, u8_xor]
        rw [← ex] at hs
        go_roundw
        case rel => exact ⟨k + 1, by omega, by go_num, hs.1, (Ik.other hs.2 gdg gdw).drew⟩
        case measure => simp [intOf]; omega
      · obtain rfl : k = n := by omega
        obtain ⟨y1, hy1⟩ : ∃ x, crcOf p s (a.take k) = x := ⟨_, rfl⟩
        obtain ⟨y2, hy2⟩ : ∃ x, crcOf p s (b.take k) = x := ⟨_, rfl⟩
        obtain ⟨y3, hy3⟩ : ∃ x, crcOf p s (c.take k) = x := ⟨_, rfl⟩
        obtain ⟨y4, hy4⟩ : ∃ x, crcOf p s (oddTo a b c k k) = x := ⟨_, rfl⟩
        have hz : bits .xor .u32 (bits .xor .u32 (bits .xor .u32 (y1.toNat : Int) (y2.toNat : Int)) (y3.toNat : Int)) (y4.toNat : Int) = 0 := by
          rw [u32_xor, u32_xor, u32_xor, ← hy1, ← hy2, ← hy3, ← hy4, oddTo_all a b c k (by omega) (by omega) (by omega), crc_four p s _ _ _ (by simp; omega) (by simp; omega)]
          rfl
        have hlen := oddTo_length a b c k k (by omega) (by omega) (by omega) (Nat.le_refl _)
        have Y1 := hide hy1
        have Y2 := hide hy2
        have Y3 := hide hy3
        have Y4 := hide hy4
        have Ikd := Ik.drew
        have hka : k ≤ a.length := by omega
        have hkb : k ≤ b.length := by omega
        have hkc : k ≤ c.length := by omega
        have hkl : k ≤ 140737488351232 := by omega
        have f1 : (k : Int) ≤ (c1 : Int) := by omega
        have f2 : (k : Int) ≤ (c2 : Int) := by omega
        have f3 : (k : Int) ≤ (c3 : Int) := by omega
        have gne : gd ≠ g := by omega
        have HLEN := hide hlen
        have gdlt := hrowk.lt
        have gne' : some gd ≠ some g := by simpa using gne
        have hd := (hrowk.drew)
        clear hy1 hy2 hy3 hy4 hlen I11 hrow11
        go_wp2
        go_region_held3 (fun _ => True) (exact trivial) (first | (go_at_call 29; (with_reducible refine (tadd_a Ikd s k c1 hka hal).mono ?_); rw [Y1.out]; rintro e w12 ⟨rfl, I12, o12⟩) | (go_at_call 29; (with_reducible refine (tadd_b I12 s k c2 hkb hkl).mono ?_); rw [Y2.out]; rintro e w13 ⟨rfl, I13, o13⟩) | (go_at_call 29; (with_reducible refine (tadd_c I13 s k c3 hkc hkl).mono ?_); rw [Y3.out]; rintro e w14 ⟨rfl, I14, o14⟩) | (go_at_call 29; (with_reducible refine (tadd_d I14 s (oddTo a b c k k) k (RowB.only (RowB.only (RowB.only hd o12 gne') o13 gne') o14 gne') HLEN.out gne hkl).mono ?_); rw [Y4.out]; rintro e w15 ⟨rfl, I15, _⟩))
        go_wp2
        go_ret
        exact ⟨rfl, I15.below⟩
  · obtain ⟨m1, hm1⟩ : ∃ m : Nat, (if b.length < a.length then (b.length : Int) else (a.length : Int)) = (m : Int) := ⟨min a.length b.length, by split <;> omega⟩
    obtain ⟨n, hn⟩ : ∃ m : Nat, (if c.length < m1 then (c.length : Int) else (m1 : Int)) = (m : Int) := ⟨min m1 c.length, by split <;> omega⟩
    have hl' : 50000 < a.length := by omega
    clear hl
    go_enter Try.func7, Try.ntmps7
    go_wp2_with fail
    refine (awake_any w).mono ?_
    rintro e w1 ⟨rfl, hb1⟩
    go_wp2
    go_ret
    exact ⟨rfl, hb1⟩
end Go.Proofs.Ytdkcjmpikmnedaa
