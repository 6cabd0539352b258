/-
  policy.number: a number of a tier's line, with its word ahead of it.
-/
import Derived.Test.YtnnamhomapagiaaGreatDoorPack
namespace Go.Proofs.YtnnamhomapagiaaGreatDoor
open Go.RowKit

def whatB (tb what : ByteArray) (r : Option Int) : Bool := (tb.toList == what.toList) && r.isSome
set_option maxRecDepth 100000 in
set_option maxHeartbeats 1000000 in
theorem num_any (b off n c : Nat) (t0 t1 what : ByteArray) (w : World) (hn : 2 ≤ n) (h0 : w.cell? ⟨b, off, none⟩ = some (.string t0)) (h1 : w.cell? ⟨b, off + 3, none⟩ = some (.string t1)) :
    Calls Tryz.prog 95 #[.slice (some ⟨b, off, none⟩) n c, .string what] w fun e w' => e = .returned (.tuple #[.int .i64 ((numR t1.toList).getD 0), .bool (whatB t0 what (numR t1.toList))]) ∧ w = w' := by
  have HN := Lib.hid (fun W => number_any t1 W)
  have g1 : (1 : Int) < (n : Int) := by omega
  have g0 : (0 : Int) < (n : Int) := by omega
  unfold whatB
  cases hr : numR t1.toList with
  | none =>
    rw [hr] at HN
    unfold numV at HN
    cases hq : (t0.toList == what.toList)
    all_goals
      go_enter Tryz.func95, Tryz.ntmps95
      go_wp2_with (go_at_call 106; refine (HN.out _).mono ?_; rintro e w1 ⟨rfl, rfl⟩)
      go_ret2
      exact ⟨rfl, rfl⟩
  | some v =>
    rw [hr] at HN
    unfold numV at HN
    cases hq : (t0.toList == what.toList)
    all_goals
      go_enter Tryz.func95, Tryz.ntmps95
      go_wp2_with (go_at_call 106; refine (HN.out _).mono ?_; rintro e w1 ⟨rfl, rfl⟩)
      go_ret2
      exact ⟨rfl, rfl⟩
end Go.Proofs.YtnnamhomapagiaaGreatDoor
