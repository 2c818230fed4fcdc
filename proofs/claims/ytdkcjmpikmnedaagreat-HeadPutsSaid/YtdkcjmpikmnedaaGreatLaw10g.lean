/- FrameGets, FrameTurned, walked. -/
import Derived.Test.YtdkcjmpikmnedaaGreatLaw10
import Derived.Test.YtdkcjmpikmnedaaGreatFrameRGet
namespace Go.Proofs.YtdkcjmpikmnedaaGreat
open Go.RowKit

/-- What bytes are got as. -/
structure Got where
  k : Int
  e : Int
  s : Int
  d : List B8
  z : Int
  er : Int
open Classical in
noncomputable def got (l : List B8) : Got := if isFrame l then ⟨hKind l, hEpoch l, hSeq l, hData l, sectors (hLen l), 0⟩ else ⟨0, 0, 0, [], 0, 4⟩
/-- A frame got, as a value. -/
abbrev gotV (g : Got) (A : Option Addr) (c : Nat) : Value := .agg #[.int .i64 g.k, .int .i64 g.e, .int .i64 g.s, .slice A g.d.length c]
theorem got_post {w : World} {l : List B8} {r : Ending} {w' : World} (h : GetPost w l r w') :
    ∃ A c, r = .returned (.tuple #[gotV (got l) A c, .int .i64 (got l).z, .int .i64 (got l).er]) ∧ OwnB w' w.heap.size (.slice A (got l).d.length c) (got l).d ∧ Below w.heap.size w w' := by
  obtain ⟨⟨hy, v, rfl, own⟩ | ⟨hno, rfl⟩, hb⟩ := h
  · obtain ⟨A, c, rfl, _⟩ := own.form
    unfold got gotV
    rw [if_pos hy]
    exact ⟨A, c, rfl, own, hb⟩
  · unfold got gotV
    rw [if_neg hno]
    exact ⟨none, 0, rfl, OwnB.nil _ _, hb⟩
theorem got_len (l : List B8) : (got l).d.length ≤ l.length := by
  unfold got
  split
  · rw [show (Got.mk (hKind l) (hEpoch l) (hSeq l) (hData l) (sectors (hLen l)) 0).d = hData l from rfl]
    unfold hData
    rw [List.length_take, List.length_drop]
    omega
  · simp
theorem rget_any (A : Option Addr) (c n : Nat) (l : List B8) (P : Nat → Prop) (w : World) (hr : Rd w P A (bs l)) (hn : l.length = n) (hl : l.length ≤ 1000000) (hc : l.length ≤ c) :
    Calls Tryz.prog 114 #[.slice A n c] w (GetPost w l) := by
  subst hn
  rcases Nat.lt_or_ge l.length 512 with h | h
  · exact rget_short A c l w h
  · exact rget_long A c l P w hr h hl hc

end Go.Proofs.YtdkcjmpikmnedaaGreat
