/-
  right: a name that is none.
-/
import Derived.Test.YtdlmipoeeiaapaaTableOn
namespace Go.Proofs.Ytdlmipoeeiaapaa
open Go.RowKit Go.Maps

set_option maxRecDepth 100000 in
set_option maxHeartbeats 4000000 in
theorem right_a {g : Nat} {ev : Int} (r : Rc) (w : World) (c0 : w.cell? ⟨g, 0, none⟩ = some (.int .i64 ev)) (hs : r.nm.size ≤ maxLen) (ht : -9223372036854775808 ≤ r.st ∧ r.st ≤ 9223372036854775807) (he : -9223372036854775808 ≤ ev ∧ ev ≤ 9223372036854775807) (hv : validB r.nm.toList = false) : Calls Try.prog 31 #[.pointer (some ⟨g, 0, none⟩), r.val] w fun e w' => e = .returned (.bool (rightR ev r)) ∧ Below w.heap.size w w' := by
  have hlt := World.block_lt_of_cell? w _ c0
  simp only at hlt
  have HS := Lib.hid hs
  have HT : Hid (_ ∧ _) := Lib.hid ⟨ht, he⟩
  clear hs
  have HV := Lib.hid (show ([r.nm].all fun s => validB s.toList) = false from by simp [hv])
  have HF := Lib.hid (show rightR ev r = false from by unfold rightR; simp [hv])
  clear hv
  go_enter Try.func31, Try.ntmps31
  go_wp2
  first
    | (go_region_with (first
        | (go_at_call 49; refine (valid_any (some ⟨_, 0, none⟩) 1 1 [r.nm] _ (by decide) rfl (by simpa using HS.out) (fun _ => ⟨_, 0, rfl, one_cell (by simp [go_sem])⟩)).mono ?_; rw [HV.out]; rintro e w' ⟨rfl, rfl⟩)
        | (go_at_call 50; refine (on_any r.st ev _ HT.out.1 HT.out.2).mono ?_; rw [HO.out]; rintro e w' ⟨rfl, rfl⟩)
        | (go_at_call 51; refine (validG_any r.ag _).mono ?_; rw [HG.out]; rintro e w' ⟨rfl, rfl⟩)))
    | fail
  all_goals
    go_wp2
    go_ret
    exact ⟨ret_bool HF.out.symm, by repeat (first | exact Below.refl _ _ | refine Below.drew ?_ | refine Below.alloc ?_ (by simp; try omega) _)⟩
end Go.Proofs.Ytdlmipoeeiaapaa
