/-
  A first call.
-/
import Derived.Test.YtcglbbabfkbcbabDoorWordLineOf
namespace Go.Proofs.YtcglbbabfkbcbabDoor
open Go.RowKit

theorem eq_texts (a b : ByteArray) : (a.toList == b.toList) = decide (a = b) := by
  rw [Bool.eq_iff_iff, beq_iff_eq, decide_eq_true_iff]
  constructor
  · intro h
    rw [ByteArray.toList_eq, ByteArray.toList_eq] at h
    exact ByteArray.ext (Array.ext' h)
  · rintro rfl; rfl
def aliveT : ByteArray := ⟨#[97, 32, 98, 32, 35, 32, 99, 10, 32, 100]⟩
theorem aliveL : linesL aliveT = [[97, 32, 98, 32, 35, 32, 99], [32, 100]] := by
  rw [linesL_is, ByteArray.toList_eq]; rfl
theorem aliveE : cutE 1 (linesL aliveT) = 0 := by rw [aliveL]; rfl
theorem aliveW : cutW 1 (linesL aliveT) = [⟨[97], 1, 1⟩, ⟨[98], 1, 3⟩, ⟨[100], 2, 2⟩] := by rw [aliveL]; rfl
set_option maxRecDepth 100000 in
theorem alive_any (w : World) (hm : ∃ m : Int, w.cell? ⟨0, 0, none⟩ = some (.int .i64 m)) :
    Calls Tryd.prog 4 #[] w fun e w' => e = .returned (.bool true) ∧ Below w.heap.size w w' := by
  go_enter Tryd.func4, Tryd.ntmps4
  go_wp2_with fail
  refine (cut_any aliveT w (by decide) hm).mono ?_
  rintro e w1 ⟨hb1, (⟨h1, rfl⟩ | ⟨h1, h2, rfl⟩ | ⟨_, _, g, hg, rfl, hW1⟩)⟩
  · exact absurd h1 (by decide)
  · exact absurd aliveE h2
  rw [aliveW] at hW1
  go_wp2_with (first
    | (go_at_call 7; refine (len_any _ _ _ _ hW1).mono ?_; rintro e w2 ⟨rfl, hb2⟩; have hW2 := hW1.below hb2)
    | (go_at_call 12; refine (next_any _ _ _ _ hW2).mono ?_; rw [show peekV 0 [⟨[97], 1, 1⟩, ⟨[98], 1, 3⟩, ⟨[100], 2, 2⟩] = .tuple #[.agg #[.string ⟨#[97]⟩, .int .i64 1, .int .i64 1], .bool true] from rfl, show nextA 0 [⟨[97], 1, 1⟩, ⟨[98], 1, 3⟩, ⟨[100], 2, 2⟩] = 1 from rfl]; rintro e w3 ⟨rfl, hW3, hg3, _⟩
       have bx3 := Box3.new w3 44 ⟨#[97]⟩ 1 1
       have hW3a := hW3.below ((Below.refl w3.heap.size w3).alloc (Nat.le_refl _) (.cells #[.string ⟨#[97]⟩, .int .i64 1, .int .i64 1] 44)))
    | (go_at_call 10; refine (lineOf_any _ _ _ _ hW3a).mono ?_; rw [show lineOf 1 [⟨[97], 1, 1⟩, ⟨[98], 1, 3⟩, ⟨[100], 2, 2⟩] = [⟨[98], 1, 3⟩] from rfl]; rintro e w4 ⟨v, rfl, hown, hW4, hg4⟩
       have bx4 := bx3.grown hg4 (by have := hW3.lt; intro e; injection e with e; omega)
       obtain ⟨A, c, rfl, _, _⟩ := own_slice hown)
    | (go_at_call 8; refine (peek_any _ _ _ _ hW4).mono ?_; rw [show peekV (1 + [(⟨[98], 1, 3⟩ : Wd)].length) [⟨[97], 1, 1⟩, ⟨[98], 1, 3⟩, ⟨[100], 2, 2⟩] = .tuple #[.agg #[.string ⟨#[100]⟩, .int .i64 2, .int .i64 2], .bool true] from rfl]; rintro e w5 ⟨rfl, hb5⟩
       have bx5 := bx4.below hb5
       have y0 := bx5.c0
       have y1 := bx5.c1
       have y2 := bx5.c2
       have hlt5 := bx5.lt))
  go_ret
  refine ⟨rfl, ?_⟩
  have q2 := hb1.trans (hb2.mono hb1.size)
  have q3 := q2.grown hg3 q2.size (fun k hk => by cases hk; exact hg)
  have q4 := (q3.alloc q3.size (.cells #[.string ⟨#[97]⟩, .int .i64 1, .int .i64 1] 44))
  have q5 := q4.grown hg4 q4.size (fun k hk => by cases hk; exact hg)
  have q6 := q5.trans (hb5.mono q5.size)
  exact q6.alloc q6.size _
end Go.Proofs.YtcglbbabfkbcbabDoor
