/-
  pool: Size, is.
-/
import Derived.Test.YtcglbbabfkbcbacPool
namespace Go.Proofs.Ytcglbbabfkbcbac
open Go.RowKit Go.Maps

set_option maxHeartbeats 1000000 in
theorem size_any (g m : Nat) (f n : Int) (us : List Int) (w : World) (h : PoolAt w g m f n us) :
    Calls Try.prog 7 #[.pointer (some ⟨g, 0, none⟩)] w fun e w' => e = .returned (.int .i64 n) ∧ w = w' := by
  obtain ⟨c0, c1, c2⟩ := h.cells
  go_enter Try.func7, Try.ntmps7
  go_wp2
  go_ret
  exact ⟨rfl, rfl⟩
set_option maxHeartbeats 1000000 in
theorem is_any (g m : Nat) (f n : Int) (us : List Int) (z : Int) (w : World) (h : PoolAt w g m f n us) (hz : -9223372036854775808 ≤ z ∧ z ≤ 9223372036854775807) :
    Calls Try.prog 22 #[.pointer (some ⟨g, 0, none⟩), .int .i64 z] w fun e w' => e = .returned (.bool (decide (f ≤ z ∧ z < f + n))) ∧ Below w.heap.size w w' := by
  obtain ⟨c0, c1, c2⟩ := h.cells
  obtain ⟨h1, h2, h3, h4, h5⟩ := h.rng
  obtain ⟨hz1, hz2⟩ := hz
  clear h5
  by_cases a : f ≤ z
  · have hw : IntKind.i64.wrap (z - f) = z - f := IntWalk.i64_in (z - f) (by omega)
    by_cases b : z - f < n
    · have HF : Hid (decide (f ≤ z ∧ z < f + n) = true) := decide_eq_true (by omega)
      go_enter Try.func22, Try.ntmps22
      go_wp2
      go_quiet (fail)
      go_wp2
      go_ret
      exact ⟨ret_bool HF.out.symm, below_drewN (Below.refl _ _) _⟩
    · have hd : decide (z - f < n) = false := by simp; omega
      have HF : Hid (decide (f ≤ z ∧ z < f + n) = false) := decide_eq_false (by omega)
      go_enter Try.func22, Try.ntmps22
      go_wp2
      go_quiet (fail)
      go_wp2
      go_ret
      exact ⟨ret_bool HF.out.symm, below_drewN (Below.refl _ _) _⟩
  · have hd : decide (f ≤ z) = false := by simp; omega
    have HF : Hid (decide (f ≤ z ∧ z < f + n) = false) := decide_eq_false (by omega)
    go_enter Try.func22, Try.ntmps22
    go_wp2
    go_quiet (fail)
    go_wp2
    go_ret
    exact ⟨ret_bool HF.out.symm, below_drewN (Below.refl _ _) _⟩

end Go.Proofs.Ytcglbbabfkbcbac
