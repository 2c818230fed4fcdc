/- What stands while a flat function goes: rows that lie apart, and those that grew out of them. -/
import Derived.Test.YtdkcjmpikmnedaaGreatGrow
import Derived.Test.YtdkcjmpikmnedaaGreatChg
namespace Go.Proofs.YtdkcjmpikmnedaaGreat
open Go.RowKit
set_option linter.unusedSimpArgs false

/-- A block's cells by a rule. -/
def rowTab (n : Nat) (f : Nat → Value) : Array Value := ((List.range n).map f).toArray
theorem rowTab_get (n : Nat) (f : Nat → Value) (k : Nat) (h : k < n) : (rowTab n f)[k]? = some (f k) := by simp [rowTab, h]
theorem rowTab_set (n : Nat) (f : Nat → Value) (k : Nat) (x : Value) : (rowTab n f).setIfInBounds k x = rowTab n fun j => if j = k then x else f j := by
  unfold rowTab
  rw [List.setIfInBounds_toArray]
  congr 1
  refine List.ext_getElem (by simp) fun i h1 h2 => ?_
  simp only [List.getElem_set, List.getElem_map, List.getElem_range]
  by_cases h : k = i
  · simp [h]
  · rw [if_neg h, if_neg (fun e => h e.symm)]
theorem rowTab_congr (n : Nat) (f g : Nat → Value) (h : ∀ k, k < n → f k = g k) : rowTab n f = rowTab n g := by
  unfold rowTab
  congr 1
  exact List.map_congr_left fun k hk => h k (List.mem_range.1 hk)

section
variable (e : TypeId) (size : Nat) (w0 : World) (lb n : Nat) (v : Nat → Value) (len : Nat → Nat)
/-- The rows that came: where they stand, and that they lie apart. -/
structure FS : Prop where
  cell : ∀ k, k < n → w0.cell? ⟨lb, k, none⟩ = some (v k)
  apart : ∀ j k b, j < n → k < n → (v j).ownBlock = some b → (v k).ownBlock = some b → j = k
  vlb : ∀ k, k < n → (v k).ownBlock ≠ some lb
  old : ∀ k, k < n → ∀ b, (v k).ownBlock = some b → b < w0.heap.size
  lbl : lb < w0.heap.size
/-- One of the rows' blocks. -/
def VK (b : Nat) : Prop := ∃ k, k < n ∧ (v k).ownBlock = some b
/-- The rows have these cells. -/
structure F1 (X : Nat → List Value) (wr : World) : Prop where
  own : ∀ j, j < n → wr.ownsRow 0 e size (v j) (len j) (X j)
  chg : Chg (VK n v) w0 wr
/-- The rows and those that grew out of the first k of them. -/
structure F2 (se : TypeId) (gb k : Nat) (g h : Nat → Value) (M C : Nat → List Value) (cl : Nat → Nat) (wr : World) : Prop where
  gcell : Blk wr gb se (rowTab n fun j => if j < k then g j else h j)
  vown : ∀ j, j < n → wr.ownsRow 0 e size (v j) (len j) (M j)
  gown : ∀ j, j < k → wr.ownsRow 0 e size (g j) (cl j) (C j)
  ghome : ∀ i, i < k → ∀ b, (g i).ownBlock = some b → b ≠ lb ∧ b ≠ gb ∧ (∀ j, j < n → (v j).ownBlock = some b → j = i) ∧ ∀ j, j < k → (g j).ownBlock = some b → j = i
  vgb : ∀ j, j < n → (v j).ownBlock ≠ some gb
  chg : Chg (VK n v) w0 wr
  gbn : w0.heap.size ≤ gb
end

section
variable {e : TypeId} {size : Nat} {w0 : World} {lb n : Nat} {v : Nat → Value} {len : Nat → Nat}
theorem chg_own {K : Nat → Prop} {w w' : World} {b0 : Nat} {u : Value} {m : Nat} {xs : List Value} (h : Chg K w w') (ho : w.ownsRow b0 e size u m xs) (hu : ∀ b, u.ownBlock = some b → ¬ K b) : w'.ownsRow b0 e size u m xs := by
  refine ⟨ho.1, ?_⟩
  rcases ho.2 with h' | ⟨g, cap, cur, rfl, hg, hh, r⟩
  · exact .inl h'
  · exact .inr ⟨g, cap, cur, rfl, hg, (h.block g (Array.getElem?_eq_some_iff.1 hh).1 (hu g rfl)).trans hh, r⟩
theorem FS.cell_at {wr : World} (S : FS w0 lb n v) (h : Chg (VK n v) w0 wr) (k : Nat) (hk : k < n) : wr.cell? ⟨lb, k, none⟩ = some (v k) :=
  (World.cell?_of_block (h.block lb S.lbl fun ⟨j, hj, hb⟩ => S.vlb j hj hb)).trans (S.cell k hk)
theorem F1.step {X : Nat → List Value} {wr w2 : World} (S : FS w0 lb n v) (F : F1 e size w0 n v len X wr) (k : Nat) (hk : k < n) (Y : List Value) (hc : Chg (fun b => (v k).ownBlock = some b) wr w2) (hy : w2.ownsRow 0 e size (v k) (len k) Y) :
    F1 e size w0 n v len (fun j => if j = k then Y else X j) w2 := by
  refine ⟨fun j hj => ?_, F.chg.trans' hc fun b _ hb => ⟨k, hk, hb⟩⟩
  by_cases h : j = k
  · subst h; rw [if_pos rfl]; exact hy
  · rw [if_neg h]
    exact chg_own hc (F.own j hj) fun b hb hb2 => h (S.apart j k b hj hk hb hb2)
theorem F1.congr {X Y : Nat → List Value} {wr : World} (F : F1 e size w0 n v len X wr) (h : ∀ j, j < n → X j = Y j) : F1 e size w0 n v len Y wr := ⟨fun j hj => h j hj ▸ F.own j hj, F.chg⟩
theorem F1.drewN {X : Nat → List Value} {wr : World} (F : F1 e size w0 n v len X wr) (m : Nat) : F1 e size w0 n v len X (wr.drewN m) := ⟨F.own, F.chg.drewN m⟩
theorem F2.step {se gb k : Nat} {g h : Nat → Value} {M C : Nat → List Value} {cl : Nat → Nat} {wr w2 : World} (S : FS w0 lb n v) (F : F2 e size w0 lb n v len se gb k g h M C cl wr) (hk : k < n) (x : Value) (hc : Chg (fun b => (v k).ownBlock = some b) wr w2)
    (hv : w2.ownsRow 0 e size (v k) (len k) (M k)) (hx : w2.ownsRow 0 e size x (cl k) (C k)) (hh : ∀ b, x.ownBlock = some b → (v k).ownBlock = some b ∨ wr.heap.size ≤ b) :
    F2 e size w0 lb n v len se gb (k + 1) (fun j => if j = k then x else g j) h M C cl (w2.setCell ⟨gb, k, none⟩ x) := by
  have hgb := F.gcell.lt
  have nx : ∀ b, x.ownBlock = some b → b ≠ gb := fun b hb => by
    rcases hh b hb with h1 | h1
    · rintro rfl; exact F.vgb k hk h1
    · omega
  have c2 : Chg (fun b => b = gb) w2 (w2.setCell ⟨gb, k, none⟩ x) := (Chg.refl (fun b => b = gb) w2).setCell (p := ⟨gb, k, none⟩) (fun _ => rfl) x
  have G2 := (hc.blk F.gcell (fun e => F.vgb k hk e)).set_ k x
  rw [rowTab_set] at G2
  have hw0 : w0.heap.size ≤ wr.heap.size := F.chg.size
  refine ⟨?_, fun j hj => ?_, fun j hj => ?_, fun i hi b hb => ?_, F.vgb, (F.chg.trans' hc fun b _ hb => ⟨k, hk, hb⟩).setCell (fun hlt => absurd F.gbn (by simp at hlt; omega)) x, F.gbn⟩
  · rw [show (fun j => if j < k + 1 then (if j = k then x else g j) else h j) = fun j => if j = k then x else if j < k then g j else h j from funext fun j => by
      by_cases e1 : j = k
      · simp [e1]
      · by_cases e2 : j < k
        · simp [e1, e2, Nat.lt_succ_of_lt e2]
        · simp [e1, e2, show ¬ j < k + 1 by omega]]
    exact G2
  · refine chg_own c2 ?_ fun b hb e => F.vgb j hj (e ▸ hb)
    by_cases h1 : j = k
    · subst h1; exact hv
    · exact chg_own hc (F.vown j hj) fun b hb hb2 => h1 (S.apart j k b hj hk hb hb2)
  · by_cases h1 : j = k
    · subst h1
      rw [if_pos rfl]
      exact chg_own c2 hx nx
    · rw [if_neg h1]
      have hj' : j < k := by omega
      refine chg_own c2 (chg_own hc (F.gown j hj') fun b hb hb2 => ?_) fun b hb e => (F.ghome j hj' b hb).2.1 e
      exact h1 ((F.ghome j hj' b hb).2.2.1 k hk hb2).symm
  · by_cases h1 : i = k
    · subst h1
      rw [if_pos rfl] at hb
      have hnew : ∀ j, j < i → (g j).ownBlock = some b → j = i := fun j hj hg => by
        rcases hh b hb with h2 | h2
        · exact ((F.ghome j hj b hg).2.2.1 i hk h2).symm
        · have := (F.gown j hj).lt b hg; omega
      refine ⟨?_, nx b hb, fun j hj h2 => ?_, fun j hj h2 => ?_⟩
      · rcases hh b hb with h2 | h2
        · rintro rfl; exact S.vlb i hk h2
        · have := S.lbl; omega
      · rcases hh b hb with h3 | h3
        · exact S.apart j i b hj hk h2 h3
        · have := S.old j hj b h2; omega
      · by_cases h3 : j = i
        · exact h3
        · rw [if_neg h3] at h2
          exact hnew j (by omega) h2
    · rw [if_neg h1] at hb
      have hi' : i < k := by omega
      obtain ⟨p1, p2, p3, p4⟩ := F.ghome i hi' b hb
      refine ⟨p1, p2, p3, fun j hj h2 => ?_⟩
      by_cases h3 : j = k
      · subst h3
        rw [if_pos rfl] at h2
        rcases hh b h2 with h4 | h4
        · exact p3 j hk h4
        · have := (F.gown i hi').lt b hb; omega
      · rw [if_neg h3] at h2
        exact p4 j (by omega) h2
theorem F2.restart {se gb : Nat} {g h g' : Nat → Value} {M C C' : Nat → List Value} {cl cl' : Nat → Nat} {wr : World} (F : F2 e size w0 lb n v len se gb n g h M C cl wr) : F2 e size w0 lb n v len se gb 0 g' g M C' cl' wr := by
  refine ⟨?_, F.vown, fun j hj => by omega, fun i hi => by omega, F.vgb, F.chg, F.gbn⟩
  have := F.gcell
  rwa [rowTab_congr n _ (fun j => if j < 0 then g' j else g j) fun k hk => by simp [hk]] at this
theorem F2.drewN {se gb k : Nat} {g h : Nat → Value} {M C : Nat → List Value} {cl : Nat → Nat} {wr : World} (F : F2 e size w0 lb n v len se gb k g h M C cl wr) (m : Nat) : F2 e size w0 lb n v len se gb k g h M C cl (wr.drewN m) := ⟨F.gcell.drewN m, F.vown, F.gown, F.ghome, F.vgb, F.chg.drewN m, F.gbn⟩
theorem F2.fresh {se gb k : Nat} {g h : Nat → Value} {M C : Nat → List Value} {cl : Nat → Nat} {wr w2 : World} (F : F2 e size w0 lb n v len se gb k g h M C cl wr) (hc : Chg (fun b => wr.heap.size ≤ b) wr w2) : F2 e size w0 lb n v len se gb k g h M C cl w2 :=
  ⟨hc.blk F.gcell (by have := F.gcell.lt; omega), fun j hj => chg_own hc (F.vown j hj) fun b hb => by have := (F.vown j hj).lt b hb; omega, fun j hj => chg_own hc (F.gown j hj) fun b hb => by have := (F.gown j hj).lt b hb; omega, F.ghome, F.vgb,
    F.chg.trans' hc fun b hb h => by have := F.chg.size; omega, F.gbn⟩
theorem F2.far {se gb k mb : Nat} {g h : Nat → Value} {M C : Nat → List Value} {cl : Nat → Nat} {wr w2 : World} (F : F2 e size w0 lb n v len se gb k g h M C cl wr) (hc : Chg (fun b => b = mb) wr w2) (h1 : mb ≠ gb) (h2 : ∀ j, j < n → (v j).ownBlock ≠ some mb) (h3 : ∀ j, j < k → (g j).ownBlock ≠ some mb) (h4 : w0.heap.size ≤ mb) :
    F2 e size w0 lb n v len se gb k g h M C cl w2 :=
  ⟨hc.blk F.gcell fun e => h1 e.symm, fun j hj => chg_own hc (F.vown j hj) fun b hb e => h2 j hj (e ▸ hb), fun j hj => chg_own hc (F.gown j hj) fun b hb e => h3 j hj (e ▸ hb), F.ghome, F.vgb, F.chg.trans' hc fun b hb h => by omega, F.gbn⟩
theorem F2.begin {se gb : Nat} {X : Nat → List Value} {wr w2 : World} {g h : Nat → Value} {C : Nat → List Value} {cl : Nat → Nat} (S : FS w0 lb n v) (F : F1 e size w0 n v len X wr) (hgb : gb = wr.heap.size) (hg : wr.grownBy w2 none) (hb : Blk w2 gb se (rowTab n h)) : F2 e size w0 lb n v len se gb 0 g h X C cl w2 := by
  subst hgb
  have c2 : Chg (fun _ => False) wr w2 := Chg.of_grown hg fun b _ e => by cases e
  refine ⟨?_, fun j hj => chg_own c2 (F.own j hj) fun _ _ => id, fun j hj => by omega, fun i hi => by omega, fun j hj h2 => ?_, F.chg.trans' c2 fun b _ h => h.elim, F.chg.size⟩
  · rwa [rowTab_congr n _ (fun j => if j < 0 then g j else h j) fun k hk => by simp] at hb
  · have := S.old j hj _ h2
    have := F.chg.size
    omega
end
end Go.Proofs.YtdkcjmpikmnedaaGreat
