/-
  Rows of elements of k cells: flat, held, sorted.
-/
import Derived.Test.YtcglbbabfkbcbacMem
namespace Go.Proofs.Ytcglbbabfkbcbac
open Go.RowKit

section
variable {α : Type} [Inhabited α] {cs : α → List Value} {k : Nat}
omit [Inhabited α] in
theorem rowK_len (hk : ∀ x, (cs x).length = k) : ∀ l : List α, (l.flatMap cs).length = l.length * k
  | [] => by simp
  | a :: r => by rw [List.flatMap_cons, List.length_append, hk, rowK_len hk r, List.length_cons, Nat.add_mul]; omega
omit [Inhabited α] in
theorem rowK_get (hk : ∀ x, (cs x).length = k) (l : List α) (j : Nat) (hj : j < l.length) (q : Nat) (hq : q < k) : (l.flatMap cs)[j * k + q]? = (cs l[j])[q]? := by
  induction l generalizing j with
  | nil => simp at hj
  | cons a r ih =>
    rw [List.flatMap_cons]
    cases j with
    | zero =>
      rw [List.getElem?_append_left (by rw [hk]; omega)]; simp
    | succ j =>
      have e : (j + 1) * k + q = k + (j * k + q) := by rw [Nat.add_mul]; omega
      rw [List.getElem?_append_right (by rw [hk]; omega), hk, e, Nat.add_sub_cancel_left, ih j (by simp at hj; omega)]; rfl
end
end Go.Proofs.Ytcglbbabfkbcbac
