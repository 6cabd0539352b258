/-
  pool: plain laws of what its calls do to the set of used blocks.
-/
import Derived.Test.YtcglbbabfkbcbacPoolGive
namespace Go.Proofs.Ytcglbbabfkbcbac
open Go.RowKit Go.Maps

theorem length_insAll : ∀ {zs us : List Int}, zs.Nodup → (∀ z ∈ zs, z ∉ us) → (insAll us zs).length = us.length + zs.length
  | [], us, _, _ => rfl
  | z :: r, us, hn, hd => by
    rw [List.nodup_cons] at hn
    show (insAll (ins z us) r).length = _
    rw [length_insAll (zs := r) hn.2 (fun x hx hm => by
      rcases mem_ins.1 hm with rfl | hm
      · exact hn.1 hx
      · exact hd x (by simp [hx]) hm), length_ins (hd z (by simp))]
    simp; omega
/-- Giving back all that is used leaves nothing. -/
theorem giveAll_sub : ∀ {zs us : List Int} {c : Int}, zs.Nodup → (∀ z ∈ zs, z ∈ us) → zs.foldl giveStep (us, c) = (us.filter (fun x => decide (x ∉ zs)), c + zs.length)
  | [], us, c, _, _ => by simp; exact (List.filter_eq_self.2 (by simp)).symm
  | z :: r, us, c, hn, hm => by
    rw [List.nodup_cons] at hn
    rw [List.foldl_cons]
    have e : giveStep (us, c) z = (us.filter (fun x => decide (x ≠ z)), c + 1) := if_pos (hm z (by simp))
    rw [e, giveAll_sub hn.2 (fun x hx => by
      rw [List.mem_filter]
      refine ⟨hm x (by simp [hx]), ?_⟩
      simp; rintro rfl; exact hn.1 hx)]
    refine Prod.ext ?_ ?_
    · simp only [List.filter_filter]
      apply List.filter_congr
      intro x _
      simp; exact Bool.and_comm _ _
    · simp; omega
theorem giveAll_self {us : List Int} (h : Rising us) : giveAll us us = ([], (us.length : Int)) := by
  have := giveAll_sub (c := 0) h.nodup (fun z hz => hz)
  unfold giveAll
  rw [this]
  refine Prod.ext ?_ ?_
  · simp
  · simp
end Go.Proofs.Ytcglbbabfkbcbac
