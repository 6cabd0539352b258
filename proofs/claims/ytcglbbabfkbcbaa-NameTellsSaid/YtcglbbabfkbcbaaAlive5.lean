/-
  The first call of the statements of chapter 5: it answers true.
-/
import Derived.Test.YtcglbbabfkbcbaaName
import Derived.Test.YtcglbbabfkbcbaaNameLess
namespace Go.Proofs.Ytcglbbabfkbcbaa
open Go.RowKit

theorem alive_hash : hash [97] = 3826002220 := by decide +kernel
theorem alive_valid1 : validB [99, 112, 117, 46, 48] = true := by decide +kernel
theorem alive_valid2 : validB [120] = true := by decide +kernel
theorem alive_not : validB [65] = false := by decide +kernel
theorem alive_shard : shardI [97] 7 = 5 := by decide +kernel
theorem alive_less : aheadB [97] 0 [98] 0 = true := by decide +kernel
theorem strs_new (w : World) (T : TypeId) (ss : List ByteArray) (n g : Nat) (hg : g = w.heap.size) :
    0 < n → ∃ b off, some (⟨g, 0, none⟩ : Addr) = some ⟨b, off, none⟩ ∧ ∀ i (h : i < ss.length), (w.alloc (.cells (ss.map Value.string).toArray T)).cell? ⟨b, off + i, none⟩ = some (.string ss[i]) := by
  intro _
  subst hg
  refine ⟨_, _, rfl, fun i hi => ?_⟩
  have := cell_of_row (w.alloc (.cells (ss.map Value.string).toArray T)) w.heap.size i (ss.map Value.string).toArray T (0, 0) (heap_alloc_new w _)
  rw [Nat.zero_add, this]
  simp [hi]
set_option maxHeartbeats 1000000 in
theorem alive_any (w : World) : Calls Try.prog 5 #[] w fun e w' => e = .returned (.bool true) ∧ Below w.heap.size w w' := by
  have e1 := alive_hash
  have e2 := alive_valid1
  have e3 := alive_valid2
  have e4 := alive_not
  have e5 := alive_shard
  have e6 := alive_less
  go_enter Try.func5, Try.ntmps5
  go_wp2_with (go_at_call 7; refine (hash_any _ _ (by decide)).mono ?_; rintro e w' ⟨rfl, rfl⟩)
  refine (valid_any (some ⟨w.heap.size, 0, none⟩) 2 2 [⟨#[99, 112, 117, 46, 48]⟩, ⟨#[120]⟩] _ (by decide) rfl (by decide) (strs_new w 9 _ 2 _ rfl)).mono ?_
  rintro e w' ⟨rfl, rfl⟩
  go_wp2_with fail
  refine (valid_any (some ⟨w.heap.size + 1, 0, none⟩) 1 1 [⟨#[65]⟩] _ (by decide) rfl (by decide) (strs_new _ 9 _ 1 _ (by simp))).mono ?_
  rintro e w' ⟨rfl, rfl⟩
  go_wp2_with fail
  refine (shard_any _ _ _ (by decide)).mono ?_
  rintro e w' ⟨rfl, rfl⟩
  go_wp2_with fail
  refine (less_any _ _ _ _ _ _ _ _ _ _ _ _ _ _ _).mono ?_
  rintro e w1 ⟨rfl, hb⟩
  go_wp2_with fail
  go_ret
  exact ⟨rfl, (((Below.refl _ _).alloc (Nat.le_refl _) _).alloc (by simp) _).trans (hb.mono (by simp; omega))⟩
end Go.Proofs.Ytcglbbabfkbcbaa
