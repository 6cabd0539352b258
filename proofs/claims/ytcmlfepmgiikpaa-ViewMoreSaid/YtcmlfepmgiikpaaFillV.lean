/-
  A table that is filled anew: what stands in it.
-/
import Derived.Test.YtcmlfepmgiikpaaRecsV
namespace Go.Proofs.Ytcmlfepmgiikpaa
open Go.RowKit Go.Maps

theorem filter_at {α : Type} (p : α → Bool) (l : List α) (j : Nat) (h : j < l.length) (hp : p l[j] = true) : (l.filter p)[((l.take j).filter p).length]? = some l[j] := by
  conv => lhs; rw [← List.take_append_drop j l]
  rw [List.filter_append, List.getElem?_append_right (by rw [List.take_append_drop]; exact Nat.le_refl _), List.drop_eq_getElem_cons h, List.filter_cons, if_pos hp]
  simp
theorem filter_next {α : Type} (p : α → Bool) (l : List α) (j : Nat) (h : j < l.length) : ((l.take (j + 1)).filter p).length = ((l.take j).filter p).length + if p l[j] = true then 1 else 0 := by
  rw [List.take_succ_eq_append_getElem h, List.filter_append, List.length_append]
  congr 1
  rw [List.filter_cons]
  split <;> simp
/-- The filling of a new table, as the statements begin. -/
theorem fill_len (rs : List Rc) : (addL 1 [] rs).length ≤ rs.length := by have := addL_len (ev := 1) (l := []) (rs := rs); simpa using this
theorem mem_addL {ev : Int} {l rs : List Rc} {r : Rc} (h : r ∈ addL ev l rs) : r ∈ l ∨ ∃ x ∈ rs, rightR ev x = true ∧ r.nm = x.nm ∧ r.st = x.st := by
  obtain ⟨m, rfl⟩ : ∃ m : List Rc, rs = m.reverse := ⟨rs.reverse, by simp⟩
  induction m with
  | nil => exact .inl (by simpa [addL] using h)
  | cons a t ih =>
    rw [List.reverse_cons, addL_snoc] at h
    have hup : (r ∈ l ∨ ∃ x ∈ t.reverse, rightR ev x = true ∧ r.nm = x.nm ∧ r.st = x.st) → r ∈ l ∨ ∃ x ∈ (a :: t).reverse, rightR ev x = true ∧ r.nm = x.nm ∧ r.st = x.st := by
      rintro (h1 | ⟨x, hx, h1⟩)
      · exact .inl h1
      · exact .inr ⟨x, by rw [List.reverse_cons]; simp at hx ⊢; exact .inl hx, h1⟩
    unfold addR at h
    split at h
    · next e =>
      rcases mem_putR h with rfl | h
      · exact .inr ⟨a, by simp, e, rfl, rfl⟩
      · exact hup (ih h)
    · exact hup (ih h)
theorem fill_right {rs : List Rc} {r : Rc} (h : r ∈ addL 1 [] rs) : validB r.nm.toList = true ∧ 0 ≤ r.st := by
  rcases mem_addL h with h | ⟨x, _, hx, h1, h2⟩
  · cases h
  · unfold rightR at hx
    simp only [Bool.and_eq_true, decide_eq_true_eq] at hx
    rw [h1, h2]
    exact ⟨hx.1.1.1, hx.1.1.2⟩
end Go.Proofs.Ytcmlfepmgiikpaa
