/-
  name.Compare, with what it leaves behind: blocks and draws, no more.
-/
import Derived.Test.YtdlmipoeeiaapaaName
import Derived.Sort.Grow
import Derived.Deep.Draws
import Derived.Deep.RegionHeld3
namespace Go.Proofs.Ytdlmipoeeiaapaa
open Go.RowKit Go.Sort

/-- w' is w with blocks laid behind it, and some draws. -/
def Grew (w w' : World) : Prop := ∃ q os, w' = grow (w.drewN q) os
theorem Grew.refl (w : World) : Grew w w := ⟨0, #[], by simp [grow, World.drewN]⟩
theorem Grew.alloc {w w' : World} (h : Grew w w') (o : Obj) : Grew w (w'.alloc o) := by
  obtain ⟨q, os, rfl⟩ := h
  exact ⟨q, os ++ #[o], by rw [alloc_eq_grow, grow_grow]⟩
theorem Grew.drew {w w' : World} (h : Grew w w') : Grew w w'.drew := by
  obtain ⟨q, os, rfl⟩ := h
  exact ⟨q + 1, os, rfl⟩
set_option maxHeartbeats 1000000 in
theorem compare_grows (a b : ByteArray) (x y : Int) (r s t u v r' s' t' u' v' : Value) (w : World) :
    Calls Try.prog 34 #[.agg #[.string a, .int .i64 x, r, s, t, u, v], .agg #[.string b, .int .i64 y, r', s', t', u', v']] w fun e w' => e = .returned (.int .i64 (cmpR a.toList x b.toList y)) ∧ Grew w w' := by
  go_enter Try.func34, Try.ntmps34
  go_wp2
  go_region_held3 (fun w' => w'.cell? ⟨w.heap.size, 0, none⟩ = some (.string a) ∧ w'.cell? ⟨w.heap.size, 1, none⟩ = some (.int .i64 x) ∧ w'.cell? ⟨w.heap.size + 1, 0, none⟩ = some (.string b) ∧ w'.cell? ⟨w.heap.size + 1, 1, none⟩ = some (.int .i64 y))
    (first | assumption | (simp [go_sem, World.cell?_alloc_past]))
    (first
      | (go_at_call 55; refine (cmpS_any _ _ _).mono ?_; rintro e w' ⟨rfl, rfl⟩)
      | (go_at_call 56; refine (cmpI_any _ _ _).mono ?_; rintro e w' ⟨rfl, rfl⟩)
      | (go_at_call 54; refine (or_any (cmpS a.toList b.toList) (cmpI x y) _ _ (by simp [go_sem]) (by simp [go_sem])).mono ?_; rintro e w' ⟨rfl, rfl⟩))
  go_wp2
  go_ret
  exact ⟨rfl, by repeat (first | exact Grew.refl _ | refine Grew.drew ?_ | refine Grew.alloc ?_ _)⟩
end Go.Proofs.Ytdlmipoeeiaapaa
