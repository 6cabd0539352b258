/-
  What an int may be.
-/
import Derived.Test.YtnnamhomapagiaaGreatDoorMem
import Derived.Deep.QuietTactic
import Derived.BigQuiet
import Derived.IntWalk
namespace Go.Proofs.YtnnamhomapagiaaGreatDoor
open Go.RowKit

theorem bd_i64' {z : Int} (h : (Lit.int .i64 z).wf = true) : -9223372036854775808 ≤ z ∧ z ≤ 9223372036854775807 := by
  have : IntKind.i64.min = -9223372036854775808 ∧ IntKind.i64.max = 9223372036854775807 := by decide
  simpa [Lit.wf, this.1, this.2] using h
end Go.Proofs.YtnnamhomapagiaaGreatDoor
