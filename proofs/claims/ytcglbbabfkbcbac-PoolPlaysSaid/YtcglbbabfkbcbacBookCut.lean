/-
  A world cut off at a size: for lists that were made beside a call that wrote one block which is no list.
-/
import Derived.Test.YtcglbbabfkbcbacBook
namespace Go.Proofs.Ytcglbbabfkbcbac
open Go.RowKit

def cutAt (w : World) (s : Nat) : World := { w with heap := w.heap.extract 0 s }
theorem cutAt_size {w : World} {s : Nat} (h : s ≤ w.heap.size) : (cutAt w s).heap.size = s := by simp [cutAt]; omega
theorem cutAt_get {w : World} {s b : Nat} (h : b < s) : (cutAt w s).heap[b]? = w.heap[b]? := by
  simp only [cutAt]
  rw [Array.getElem?_extract]
  by_cases hb : b < w.heap.size
  · rw [if_pos (by omega), Nat.zero_add]
  · rw [if_neg (by omega), Array.getElem?_eq_none (by omega)]
theorem cutAt_below {w : World} {s : Nat} (h : s ≤ w.heap.size) : Below (cutAt w s).heap.size (cutAt w s) w :=
  ⟨rfl, rfl, rfl, by rw [cutAt_size h]; exact h, fun b hb => (cutAt_get (by rw [cutAt_size h] at hb; exact hb)).symm⟩
theorem cutAt_own {w : World} {s B : Nat} {e : TypeId} {k : Nat} {v : Value} {n : Nat} {xs : List Value} (h : w.ownsRow B e k v n xs) (hlt : ∀ q, v.ownBlock = some q → q < s) : (cutAt w s).ownsRow B e k v n xs := by
  refine ⟨h.1, ?_⟩
  rcases h.2 with hn | ⟨g, cap, cur, rfl, hb, hg, rest⟩
  · exact .inl hn
  · exact .inr ⟨g, cap, cur, rfl, hb, (cutAt_get (hlt g rfl)).trans hg, rest⟩
/-- .. of a row that stood ahead of a call that wrote block g alone. -/
theorem cut_own {w w' : World} {g B C : Nat} {e : TypeId} {k : Nat} {v : Value} {n : Nat} {xs : List Value} (hg : w.grownBy w' (some g)) (h : w.ownsRow C e k v n xs) (hC : B ≤ C) (hB : g < B) : (cutAt w' w.heap.size).ownsRow C e k v n xs :=
  cutAt_own (h.kept hg (by
    cases hv : v.ownBlock with
    | none => exact .inl rfl
    | some q => exact .inr (fun e => by injection e with e; have := (h.lt q hv).1; omega))) fun q hq => (h.lt q hq).2
theorem cut_kept {α : Type} {enc : α → List Value} {T : TypeId} {k : Nat} {w w' : World} {g B : Nat} {vs : List Value} {ls : List (List α)} (h : Kept enc T k w B vs ls) (hg : w.grownBy w' (some g)) (hB : g < B) : Kept enc T k (cutAt w' w.heap.size) B vs ls :=
  h.of_own fun _ _ _ _ _ ho => cut_own hg ho (Nat.le_refl _) hB
theorem Stands.bx {B g b : Nat} {T T' : TypeId} {w w' : World} {cs : Array Value} (h : Stands B g T w w') (hx : Bx w b T' cs) (hg : b ≠ g) (hne : T' ≠ T) : Bx w' b T' cs :=
  ⟨(h.block b hx.lt hg (.inr fun c fr e => by rw [hx.blk] at e; injection e with e; injection e with _ e; exact hne e)).trans hx.blk⟩
def noFs : Array Value := #[.slice none 0 0, .slice none 0 0, .slice none 0 0, .slice none 0 0, .slice none 0 0, .slice none 0 0, .slice none 0 0, .slice none 0 0, .slice none 0 0, .slice none 0 0, .slice none 0 0, .slice none 0 0, .slice none 0 0, .slice none 0 0, .slice none 0 0, .slice none 0 0]
theorem noFs_at (i : Nat) (h : i < 16) : noFs[i]? = some (.slice none 0 0) := by
  have : i = 0 ∨ i = 1 ∨ i = 2 ∨ i = 3 ∨ i = 4 ∨ i = 5 ∨ i = 6 ∨ i = 7 ∨ i = 8 ∨ i = 9 ∨ i = 10 ∨ i = 11 ∨ i = 12 ∨ i = 13 ∨ i = 14 ∨ i = 15 := by omega
  rcases this with rfl | rfl | rfl | rfl | rfl | rfl | rfl | rfl | rfl | rfl | rfl | rfl | rfl | rfl | rfl | rfl <;> rfl
end Go.Proofs.Ytcglbbabfkbcbac
