/-
  sedimentbook.SameRecords, at like lists.
-/
import Derived.Test.YtcmlfepmgiikpaaRowsV
namespace Go.Proofs.Ytcmlfepmgiikpaa
open Go.RowKit Go.Maps

set_option maxRecDepth 100000 in
set_option maxHeartbeats 2000000 in
theorem sameRecs_any (A B : Option Addr) (n m c d : Nat) (l : List Rc) (w : World) (hA : Rcs w A n l) (hB : Rcs w B m l) : Calls Try.prog 13 #[.slice A n c, .slice B m d] w fun e w' => e = .returned (.bool true) ∧ Below w.heap.size w w' := by
  obtain rfl : n = m := hA.len.symm.trans hB.len
  have hn := hA.n_le
  have HL := Lib.hid hA.len
  unfold maxLen at hn
  go_enter Try.func13, Try.ntmps13
  go_wp2
  obtain ⟨w6, hw6⟩ : ∃ w6, w6 = w := ⟨_, rfl⟩
  subst hw6
  go_loopw [5] (fun i wr => ∃ j : Nat, j ≤ n ∧ i = .int .i64 j ∧ Below w6.heap.size w6 wr) (fun i _ => n - (intOf i).toNat)
  case atStart => exact ⟨0, Nat.zero_le _, rfl, Below.refl _ _⟩
  case round =>
    obtain ⟨j, hj, rfl, hbel⟩ := hrel
    by_cases hlt : j < n
    · have K : j < l.length := by rw [HL.out]; exact hlt
      obtain ⟨b, off, rfl, hb, X⟩ := (hA.below hbel).get K
      obtain ⟨r0, r1, r2, r3, r4, r5, r6⟩ := X
      obtain ⟨b2, off2, rfl, hb2, Y⟩ := (hB.below hbel).get K
      obtain ⟨s0, s1, s2, s3, s4, s5, s6⟩ := Y
      generalize l[j]'K = x at *
      have g0 : (0 : Int) ≤ (j : Int) := by omega
      have g1 : (j : Int) < (n : Int) := by omega
      go_wp2
      go_quiet (fail)
      go_wp2
      go_roundw
      case rel => exact ⟨j + 1, by omega, by go_num, below_drewN hbel _⟩
      case measure => simp [intOf]; omega
    · have hd : decide ((j : Int) < (n : Int)) = false := decide_eq_false (by omega)
      go_wp2
      go_ret
      exact ⟨rfl, hbel⟩
end Go.Proofs.Ytcmlfepmgiikpaa
