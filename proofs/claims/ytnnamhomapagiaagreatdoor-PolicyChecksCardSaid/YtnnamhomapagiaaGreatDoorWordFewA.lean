/-
  Which texts are cut clean.
-/
import Derived.Test.YtnnamhomapagiaaGreatDoorWordFewB
import Derived.Deep.DeepCutAuto
namespace Go.Proofs.YtnnamhomapagiaaGreatDoor
open Go.RowKit

theorem cutE_zero : ∀ (l : List UInt8) (n : Int), (∀ x ∈ l, x = 10 ∨ okB x = true) → cutE n (linesOf l) = 0
  | [], n, _ => by simp [linesOf, cutE]
  | c :: l, n, h => by
    by_cases hc : c = 10
    · subst hc
      have e : linesOf (10 :: l) = [] :: linesOf l := by rw [linesOf, if_pos rfl]
      rw [e]
      exact cutE_zero l (n + 1) (fun x hx => h x (by simp [hx]))
    · obtain ⟨z, zs, e1, e2⟩ := linesOf_cons hc l
      have ih := cutE_zero l n (fun x hx => h x (by simp [hx]))
      have hco : okB c = true := (h c (by simp)).resolve_left hc
      rw [e1] at ih
      rw [e2, ← ih]
      show (if (c :: z).all okB = true then cutE (n + 1) zs else n) = (if z.all okB = true then cutE (n + 1) zs else n)
      simp [hco]
end Go.Proofs.YtnnamhomapagiaaGreatDoor
