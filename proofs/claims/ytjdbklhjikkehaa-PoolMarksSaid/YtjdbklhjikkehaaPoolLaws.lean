/-
  pool: plain laws of what its calls do to the set of used blocks; a list of marks.
-/
import Derived.Test.YtjdbklhjikkehaaAlive18
import Derived.Laws.BitsAllLaws
import Derived.Laws.BitsLemmas
namespace Go.Proofs.Ytjdbklhjikkehaa
open Go.RowKit Go.Maps

theorem length_insAll : ∀ {zs us : List Int}, zs.Nodup → (∀ z ∈ zs, z ∉ us) → (insAll us zs).length = us.length + zs.length
  | [], us, _, _ => rfl
  | z :: r, us, hn, hd => by
    rw [List.nodup_cons] at hn
    show (insAll (ins z us) r).length = _
    rw [length_insAll (zs := r) hn.2 (fun x hx hm => by
      rcases mem_ins.1 hm with rfl | hm
      · exact hn.1 hx
      · exact hd x (by simp [hx]) hm), length_ins (hd z (by simp))]
    simp; omega
/-- Giving back all that is used leaves nothing. -/
theorem giveAll_sub : ∀ {zs us : List Int} {c : Int}, zs.Nodup → (∀ z ∈ zs, z ∈ us) → zs.foldl giveStep (us, c) = (us.filter (fun x => decide (x ∉ zs)), c + zs.length)
  | [], us, c, _, _ => by simp; exact (List.filter_eq_self.2 (by simp)).symm
  | z :: r, us, c, hn, hm => by
    rw [List.nodup_cons] at hn
    rw [List.foldl_cons]
    have e : giveStep (us, c) z = (us.filter (fun x => decide (x ≠ z)), c + 1) := if_pos (hm z (by simp))
    rw [e, giveAll_sub hn.2 (fun x hx => by
      rw [List.mem_filter]
      refine ⟨hm x (by simp [hx]), ?_⟩
      simp; rintro rfl; exact hn.1 hx)]
    refine Prod.ext ?_ ?_
    · simp only [List.filter_filter]
      apply List.filter_congr
      intro x _
      simp; exact Bool.and_comm _ _
    · simp; omega
theorem giveAll_self {us : List Int} (h : Rising us) : giveAll us us = ([], (us.length : Int)) := by
  have := giveAll_sub (c := 0) h.nodup (fun z hz => hz)
  unfold giveAll
  rw [this]
  refine Prod.ext ?_ ?_
  · simp
  · simp
theorem and7 (x : Int) : 0 ≤ bits .and .i64 x 7 ∧ bits .and .i64 x 7 ≤ 7 := by
  have h : (BitVec.ofInt 64 x &&& BitVec.ofInt 64 7).toNat ≤ 7 := by
    rw [BitVec.toNat_and]
    exact Nat.and_le_right
  have e : bits .and .i64 x 7 = IntKind.i64.wrap ((BitVec.ofInt 64 x &&& BitVec.ofInt 64 7).toNat : Int) := rfl
  rw [e, IntKind.wrap_i64]
  omega
/-- The marks: at place t whether f + t is in S. -/
def marks (f : Int) (n : Nat) (S : List Int) : Array Value := ((List.range n).map fun (t : Nat) => Value.bool (decide (f + (t : Int) ∈ S))).toArray
theorem marks_size (f : Int) (n : Nat) (S : List Int) : (marks f n S).size = n := by simp [marks]
theorem marks_get (f : Int) (n : Nat) (S : List Int) (t : Nat) (h : t < n) : (marks f n S)[t]? = some (.bool (decide (f + (t : Int) ∈ S))) := by
  simp [marks, h]
theorem marks_set (f : Int) (n : Nat) (S : List Int) (z : Int) (h1 : f ≤ z) : (marks f n S).setIfInBounds (z - f).toNat (.bool true) = marks f n (ins z S) := by
  apply Array.ext_getElem?
  intro t
  rw [Array.getElem?_setIfInBounds]
  by_cases e : (z - f).toNat = t
  · subst e
    by_cases hn : (z - f).toNat < n
    · rw [if_pos rfl, if_pos (by rw [marks_size]; exact hn), marks_get _ _ _ _ hn, decide_eq_true (by rw [mem_ins]; left; omega)]
    · rw [if_pos rfl, if_neg (by rw [marks_size]; exact hn), Array.getElem?_eq_none (by rw [marks_size]; omega)]
  · rw [if_neg e]
    by_cases hn : t < n
    · rw [marks_get _ _ _ _ hn, marks_get _ _ _ _ hn]
      have : (f + (t : Int) ∈ ins z S) ↔ f + (t : Int) ∈ S := by
        rw [mem_ins]
        constructor
        · rintro (h | h)
          · omega
          · exact h
        · exact .inr
      simp [this]
    · rw [Array.getElem?_eq_none (by rw [marks_size]; omega), Array.getElem?_eq_none (by rw [marks_size]; omega)]
theorem marks_nil (f : Int) (n : Nat) : marks f n [] = Array.replicate n (.bool false) := by
  apply Array.ext_getElem?
  intro t
  by_cases hn : t < n
  · rw [marks_get _ _ _ _ hn]; simp [hn]
  · rw [Array.getElem?_eq_none (by rw [marks_size]; omega), Array.getElem?_eq_none (by simp; omega)]
end Go.Proofs.Ytjdbklhjikkehaa
