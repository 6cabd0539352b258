/-
  pool: the zero pool: Used, Copy.
-/
import Derived.Test.YtcglbbabfkbcbacPoolZero
import Derived.Test.YtcglbbabfkbcbacPoolUsed
import Derived.Test.YtcglbbabfkbcbacPoolCopy
namespace Go.Proofs.Ytcglbbabfkbcbac
open Go.RowKit Go.Maps Go.Sort Go.Shelf

set_option maxHeartbeats 1000000 in
theorem used_zero (g : Nat) (w : World) (h : ZeroP w g) :
    Calls Try.prog 14 #[.pointer (some ⟨g, 0, none⟩)] w fun e w' => ∃ v, e = .returned v ∧ w'.ownsRow w.heap.size 3 1 v 0 [] ∧ Below w.heap.size w w' := by
  refine (callsIn_wide (n := 6)).1 ?_
  obtain ⟨c0, c1, c2⟩ := h.cells
  have hseq : SeqGives Fence.wide 2 Try.prog 61 #[.pointer (some ⟨w.heap.size, 0, none⟩)] encZ (fun ss : List Int => ss = []) 0 (w.alloc (.cells #[.map none] 28)) :=
    AnyZI.keys_gives_nil (ρ := Try.keysA_ren) { Try.keysA with } Fence.wide _ trivial rfl w.heap.size _ (by simp) (cell_of_row _ w.heap.size 0 _ _ _ (heap_alloc_new w _))
  have cK : ∀ mb W, CallsIn Fence.wide 5 Try.prog 25 #[.map mb] W fun e w' => e = .returned (.func (.func 61) #[] #[.pointer (some ⟨W.heap.size, 0, none⟩)]) ∧ w' = W.alloc (.cells #[.map mb] 28) := fun mb W => AnyZI.keys_in Try.keysA Fence.wide 5 trivial rfl mb W
  have cS := AnyZI.sorted_in Try.sortedA Fence.wide 5 trivial trivial trivial trivial rfl (by omega) (sortsA _) (enters_of Try.func60 (by kernel_rfl) rfl) 61 #[.pointer (some ⟨w.heap.size, 0, none⟩)] trivial (enters_of Try.func61 (by kernel_rfl) rfl) _ _ (by unfold maxLen; omega) (by omega) _ hseq
  change CallsIn _ _ Try.prog 24 _ _ _ at cS
  have hfK : Fence.wide.fn 25 := trivial
  have hfS : Fence.wide.fn 24 := trivial
  clear hseq
  refine callsIn_of_wp Try.func14 rfl trivial ?_ rfl
  simp only [Try.ntmps14, List.size_toArray, List.length_cons, List.length_nil, Nat.reduceAdd, Nat.reduceSub, Array.replicate_succ, Array.replicate_zero, List.push_toArray, List.append_toArray, List.nil_append, List.cons_append]
  gi_wp2_with (first
    | (gi_at_call 25; refine (cK _ _).mono ?_; rintro e w' ⟨rfl, rfl⟩)
    | (gi_at_call 24; refine cS.mono ?_; rintro e w' ⟨v, ss, rfl, hS, hrow, hnil, hb⟩))
  go_ret
  subst hS
  rw [show (([] : List Int).mergeSort (fun x y => decide (x ≤ y))) = [] from by simp] at hrow
  have hr2 : w'.ownsRow (w.alloc (.cells #[.map none] 28)).heap.size 3 1 v 0 [] := hrow
  exact ⟨v, rfl, ownsRow_base_a hr2 (by simp), ((Below.refl _ w).alloc (Nat.le_refl _) _).trans (hb.mono (by simp))⟩
set_option maxRecDepth 100000 in
set_option maxHeartbeats 2000000 in
theorem copy_zero {w : World} {g : Nat} (h : ZeroP w g) :
    Calls Try.prog 13 #[.pointer (some ⟨g, 0, none⟩)] w fun e w' => ∃ g2, e = .returned (.pointer (some ⟨g2, 0, none⟩)) ∧ ZeroP w' g2 ∧ PoolTy w' g2 ∧ Below w.heap.size w w' ∧ w.heap.size ≤ g2 := by
  have hd := h.below ((Below.refl _ _).drew)
  obtain ⟨c0, c1, c2⟩ := h.cells
  obtain ⟨d0, d1, d2⟩ := hd.cells
  go_enter Try.func13, Try.ntmps13
  go_wp2_with fail
  go_region_with (first
    | (go_at_call 23; refine (AnyW.maps_Clone_nil Try.cloneM _).mono ?_; rintro e w2 ⟨rfl, rfl⟩))
  all_goals
    go_wp2
    go_ret
    exact ⟨_, rfl, ⟨[], _, heap_alloc_new _ _⟩, ⟨_, _, heap_alloc_new _ _⟩, ((Below.refl _ w).drew).alloc (Nat.le_refl _) _, Nat.le_refl _⟩
end Go.Proofs.Ytcglbbabfkbcbac
