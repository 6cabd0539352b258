/-
  word.Is; the first call of chapter 7 (alive).
-/
import Derived.Test.YtjolloolinhlnaaDoorWordLineOf
namespace Go.Proofs.YtjolloolinhlnaaDoor
open Go.RowKit

/-- Is a text a word? -/
def isWordB (s : ByteArray) : Bool := decide (s.size ≤ 4000) && decide (cutE 1 (linesL s) = 0) && (match cutW 1 (linesL s) with
  | [x] => decide ((⟨x.text.toArray⟩ : ByteArray) = s)
  | _ => false)
theorem isWordB_one {s : ByteArray} {x : Wd} (h1 : s.size ≤ 4000) (h2 : cutE 1 (linesL s) = 0) (h3 : cutW 1 (linesL s) = [x]) : isWordB s = decide ((⟨x.text.toArray⟩ : ByteArray) = s) := by
  unfold isWordB
  rw [h3, decide_eq_true h1, decide_eq_true h2]
  rfl
theorem isWordB_no {s : ByteArray} (h : ¬ (s.size ≤ 4000 ∧ cutE 1 (linesL s) = 0 ∧ (cutW 1 (linesL s)).length = 1)) : isWordB s = false := by
  unfold isWordB
  by_cases h1 : s.size ≤ 4000
  · by_cases h2 : cutE 1 (linesL s) = 0
    · match hh : cutW 1 (linesL s) with
      | [] => simp
      | [x] => rw [hh] at h; exact absurd ⟨h1, h2, rfl⟩ h
      | x :: y :: r => simp
    · simp [h2]
  · simp [h1]
theorem eq_texts (a b : ByteArray) : (a.toList == b.toList) = decide (a = b) := by
  rw [Bool.eq_iff_iff, beq_iff_eq, decide_eq_true_iff]
  constructor
  · intro h
    rw [ByteArray.toList_eq, ByteArray.toList_eq] at h
    exact ByteArray.ext (Array.ext' h)
  · rintro rfl; rfl
set_option maxRecDepth 100000 in
theorem is_any (s : ByteArray) (w : World) (hs : s.size ≤ maxLen) (hm : ∃ m : Int, w.cell? ⟨0, 0, none⟩ = some (.int .i64 m)) :
    Calls Tryd.prog 17 #[.string s] w fun e w' => e = .returned (.bool (isWordB s)) ∧ Below w.heap.size w w' := by
  go_enter Tryd.func17, Tryd.ntmps17
  go_wp2_with (first
    | (go_at_call 9; refine (cut_any s _ hs hm).mono ?_; rintro e w1 ⟨hb, (⟨h1, rfl⟩ | ⟨h1, h2, rfl⟩ | ⟨h1, h2, g, hg, rfl, hW⟩)⟩))
  · go_ret
    exact ⟨ret_bool (isWordB_no (fun h => by omega)).symm, hb⟩
  · go_ret
    exact ⟨ret_bool (isWordB_no (fun h => h2 h.2.1)).symm, hb⟩
  · obtain ⟨L, hL⟩ : ∃ L, L = cutW 1 (linesL s) := ⟨_, rfl⟩
    rw [← hL] at hW
    have HL := Lib.hid hL
    clear hL
    have hfew := hW.few
    by_cases hl : L.length = 1
    · obtain ⟨x, rfl⟩ := List.length_eq_one_iff.1 hl
      have HI := Lib.hid (isWordB_one h1 h2 HL.out.symm)
      refine (len_any _ _ _ _ hW).mono ?_
      rw [show (([x] : List Wd).length - 0 : Nat) = 1 from rfl]
      rintro e w2 ⟨rfl, hb2⟩
      have hW2 := hW.below hb2
      obtain ⟨A, c, x1, x2, x3, x4, x5⟩ := hW2.c1
      obtain ⟨b, off, rfl, _, hcell⟩ := x3.at_ (by simp [wrow, wcells])
      have z0 := hcell 0 (.string ⟨x.text.toArray⟩) rfl
      obtain ⟨tb, htb⟩ : ∃ tb : ByteArray, tb = ⟨x.text.toArray⟩ := ⟨_, rfl⟩
      rw [← htb, Nat.add_zero] at z0
      have HTB := Lib.hid htb
      clear htb hcell
      go_wp2_with fail
      go_ret
      refine ⟨ret_bool ?_, hb.trans (hb2.mono hb.size)⟩
      rw [HI.out, ← HTB.out]
      exact eq_texts _ _
    · have HI := Lib.hid (isWordB_no (fun h => hl (by rw [HL.out]; exact h.2.2)))
      refine (len_any _ _ _ _ hW).mono ?_
      rintro e w2 ⟨rfl, hb2⟩
      have hz : (((L.length - 0 : Nat) : Int) == 1) = false := beq_eq_false_iff_ne.2 (by omega)
      have hz' : decide (((L.length - 0 : Nat) : Int) = 1) = false := decide_eq_false (by omega)
      have hz3 : ¬ (((L.length - 0 : Nat) : Int) = 1) := by omega
      go_wp2_with fail
      go_ret
      exact ⟨ret_bool HI.out.symm, hb.trans (hb2.mono hb.size)⟩
def aliveT : ByteArray := ⟨#[97, 32, 98, 32, 35, 32, 99, 10, 32, 100]⟩
theorem aliveL : linesL aliveT = [[97, 32, 98, 32, 35, 32, 99], [32, 100]] := by
  rw [linesL_is, ByteArray.toList_eq]; rfl
theorem aliveE : cutE 1 (linesL aliveT) = 0 := by rw [aliveL]; rfl
theorem aliveW : cutW 1 (linesL aliveT) = [⟨[97], 1, 1⟩, ⟨[98], 1, 3⟩, ⟨[100], 2, 2⟩] := by rw [aliveL]; rfl
set_option maxRecDepth 100000 in
theorem alive_any (w : World) (hm : ∃ m : Int, w.cell? ⟨0, 0, none⟩ = some (.int .i64 m)) :
    Calls Tryd.prog 7 #[] w fun e w' => e = .returned (.bool true) ∧ Below w.heap.size w w' := by
  go_enter Tryd.func7, Tryd.ntmps7
  go_wp2_with fail
  refine (cut_any aliveT w (by decide) hm).mono ?_
  rintro e w1 ⟨hb1, (⟨h1, rfl⟩ | ⟨h1, h2, rfl⟩ | ⟨_, _, g, hg, rfl, hW1⟩)⟩
  · exact absurd h1 (by decide)
  · exact absurd aliveE h2
  rw [aliveW] at hW1
  go_wp2_with (first
    | (go_at_call 10; refine (len_any _ _ _ _ hW1).mono ?_; rintro e w2 ⟨rfl, hb2⟩; have hW2 := hW1.below hb2)
    | (go_at_call 15; refine (next_any _ _ _ _ hW2).mono ?_; rw [show peekV 0 [⟨[97], 1, 1⟩, ⟨[98], 1, 3⟩, ⟨[100], 2, 2⟩] = .tuple #[.agg #[.string ⟨#[97]⟩, .int .i64 1, .int .i64 1], .bool true] from rfl, show nextA 0 [⟨[97], 1, 1⟩, ⟨[98], 1, 3⟩, ⟨[100], 2, 2⟩] = 1 from rfl]; rintro e w3 ⟨rfl, hW3, hg3, _⟩
       have bx3 := Box3.new w3 44 ⟨#[97]⟩ 1 1
       have hW3a := hW3.below ((Below.refl w3.heap.size w3).alloc (Nat.le_refl _) (.cells #[.string ⟨#[97]⟩, .int .i64 1, .int .i64 1] 44)))
    | (go_at_call 13; refine (lineOf_any _ _ _ _ hW3a).mono ?_; rw [show lineOf 1 [⟨[97], 1, 1⟩, ⟨[98], 1, 3⟩, ⟨[100], 2, 2⟩] = [⟨[98], 1, 3⟩] from rfl]; rintro e w4 ⟨v, rfl, hown, hW4, hg4⟩
       have bx4 := bx3.grown hg4 (by have := hW3.lt; intro e; injection e with e; omega)
       obtain ⟨A, c, rfl, _, _⟩ := own_slice hown)
    | (go_at_call 11; refine (peek_any _ _ _ _ hW4).mono ?_; rw [show peekV (1 + [(⟨[98], 1, 3⟩ : Wd)].length) [⟨[97], 1, 1⟩, ⟨[98], 1, 3⟩, ⟨[100], 2, 2⟩] = .tuple #[.agg #[.string ⟨#[100]⟩, .int .i64 2, .int .i64 2], .bool true] from rfl]; rintro e w5 ⟨rfl, hb5⟩
       have bx5 := bx4.below hb5
       have y0 := bx5.c0
       have y1 := bx5.c1
       have y2 := bx5.c2
       have hlt5 := bx5.lt))
  go_ret
  refine ⟨rfl, ?_⟩
  have q2 := hb1.trans (hb2.mono hb1.size)
  have q3 := q2.grown hg3 q2.size (fun k hk => by cases hk; exact hg)
  have q4 := (q3.alloc q3.size (.cells #[.string ⟨#[97]⟩, .int .i64 1, .int .i64 1] 44))
  have q5 := q4.grown hg4 q4.size (fun k hk => by cases hk; exact hg)
  have q6 := q5.trans (hb5.mono q5.size)
  exact q6.alloc q6.size _
end Go.Proofs.YtjolloolinhlnaaDoor
