/-
  name.Valid of one name.
-/
import Derived.Test.YtnnamhomapagiaaGreatDoorNameP
import Derived.Test.YtnnamhomapagiaaGreatDoorMem
namespace Go.Proofs.YtnnamhomapagiaaGreatDoor
open Go.RowKit

theorem one_str (w : World) (s : ByteArray) (o : Nat) (ho : o = w.heap.size) : 0 < 1 → ∃ b off, (some (⟨o, 0, none⟩ : Addr)) = some ⟨b, off, none⟩ ∧ ∀ i (h : i < [s].length), (w.alloc (.cells #[.string s] 9)).cell? ⟨b, off + i, none⟩ = some (.string [s][i]) := by
  intro _
  subst ho
  refine ⟨_, _, rfl, fun i hi => ?_⟩
  have : i = 0 := by simpa using hi
  subst this
  exact cell_of_row _ _ 0 _ _ _ (heap_alloc_new w _)
theorem valid_one (s : ByteArray) (w : World) (hs : s.size ≤ maxLen) (c : Nat) : Calls Tryz.prog 19 #[.slice (some ⟨w.heap.size, 0, none⟩) 1 c] (w.alloc (.cells #[.string s] 9)) fun e w' => e = .returned (.bool (validB s.toList)) ∧ w.alloc (.cells #[.string s] 9) = w' := by
  have h := valid_any (some ⟨w.heap.size, 0, none⟩) 1 c [s] (w.alloc (.cells #[.string s] 9)) (by decide) rfl (fun x hx => by rw [List.mem_singleton.1 hx]; exact hs) (one_str w s _ rfl)
  simpa using h
end Go.Proofs.YtnnamhomapagiaaGreatDoor
