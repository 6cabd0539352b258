/-
  Which byte of a text is told.
-/
import Derived.Test.YtcglbbabfkbcbabDoorWordLines
import Derived.Laws.BytesArg
import Derived.Laws.Concat
namespace Go.Proofs.YtcglbbabfkbcbabDoor
open Go.RowKit

theorem okB_ten : okB 10 = false := by decide
theorem linesOf_ne : ∀ l, linesOf l ≠ []
  | [] => by simp [linesOf]
  | c :: r => by
    unfold linesOf
    split
    · simp
    · split <;> simp
theorem linesOf_cons {x : UInt8} (hx : x ≠ 10) (l : List UInt8) : ∃ y ys, linesOf l = y :: ys ∧ linesOf (x :: l) = (x :: y) :: ys := by
  match h : linesOf l with
  | [] => exact absurd h (linesOf_ne l)
  | y :: ys => exact ⟨y, ys, rfl, by rw [linesOf, if_neg hx, h]⟩
theorem cutE_ok : ∀ (a : List UInt8) (n : Int), 1 ≤ n → cutE n (linesOf a) = 0 → ∀ x ∈ a, x = 10 ∨ okB x = true
  | [], _, _, _, x, hx => by simp at hx
  | y :: r, n, hn, h, x, hx => by
    by_cases hy : y = 10
    · subst hy
      have e : linesOf (10 :: r) = [] :: linesOf r := by rw [linesOf, if_pos rfl]
      rw [e] at h
      have h2 : cutE (n + 1) (linesOf r) = 0 := h
      rcases List.mem_cons.1 hx with rfl | hx
      · exact .inl rfl
      · exact cutE_ok r (n + 1) (by omega) h2 x hx
    · obtain ⟨z, zs, e1, e2⟩ := linesOf_cons hy r
      rw [e2] at h
      have h3 : (if (y :: z).all okB = true then cutE (n + 1) zs else n) = 0 := h
      by_cases h4 : (y :: z).all okB = true
      · rw [if_pos h4] at h3
        rw [List.all_cons, Bool.and_eq_true] at h4
        rcases List.mem_cons.1 hx with rfl | hx
        · exact .inr h4.1
        · exact cutE_ok r n hn (by rw [e1]; show (if z.all okB = true then cutE (n + 1) zs else n) = 0; rw [if_pos h4.2]; exact h3) x hx
      · rw [if_neg h4] at h3; omega
theorem cutE_bad (c : UInt8) (hc : c ≠ 10) (hb : okB c = false) (b : List UInt8) : ∀ (a : List UInt8) (n : Int), (∀ x ∈ a, x = 10 ∨ okB x = true) → cutE n (linesOf (a ++ c :: b)) = n + (a.count 10 : Nat)
  | [], n, _ => by
    obtain ⟨z, zs, _, e2⟩ := linesOf_cons hc b
    show cutE n (linesOf (c :: b)) = _
    rw [e2]
    show (if (c :: z).all okB = true then _ else n) = _
    rw [if_neg (by simp [hb])]; simp
  | y :: r, n, ha => by
    have ih := cutE_bad c hc hb b r
    by_cases hy : y = 10
    · subst hy
      have e : linesOf (10 :: (r ++ c :: b)) = [] :: linesOf (r ++ c :: b) := by rw [linesOf, if_pos rfl]
      show cutE n (linesOf (10 :: (r ++ c :: b))) = _
      rw [e]
      show cutE (n + 1) (linesOf (r ++ c :: b)) = _
      rw [ih (n + 1) (fun x hx => ha x (by simp [hx])), List.count_cons_self]; omega
    · obtain ⟨z, zs, e1, e2⟩ := linesOf_cons hy (r ++ c :: b)
      show cutE n (linesOf (y :: (r ++ c :: b))) = _
      rw [e2]
      have hyo : okB y = true := (ha y (by simp)).resolve_left hy
      have h3 := ih n (fun x hx => ha x (by simp [hx]))
      rw [e1] at h3
      have h4 : cutE n ((y :: z) :: zs) = cutE n (z :: zs) := by
        show (if (y :: z).all okB = true then cutE (n + 1) zs else n) = (if z.all okB = true then cutE (n + 1) zs else n)
        simp [hyo]
      rw [h4, h3, List.count_cons_of_ne (fun e => hy e)]
end Go.Proofs.YtcglbbabfkbcbabDoor
