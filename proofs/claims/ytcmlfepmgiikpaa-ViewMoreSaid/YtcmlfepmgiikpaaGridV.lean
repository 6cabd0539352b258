/-
  grid.Floor.
-/
import Derived.Test.YtcmlfepmgiikpaaNameV
namespace Go.Proofs.Ytcmlfepmgiikpaa
open Go.RowKit

/-- The greatest multiple that is not above. -/
def flr (t e : Int) : Int := t - t % e
theorem flr_bd {t e : Int} (h : 0 ≤ t) (he : 1 ≤ e) : 0 ≤ flr t e ∧ flr t e ≤ t := by
  have h1 := Int.emod_nonneg t (show e ≠ 0 by omega)
  have h2 : t % e ≤ t := by
    rcases Int.lt_or_le t e with h3 | h3
    · rw [Int.emod_eq_of_lt h h3]; omega
    · have := Int.emod_lt_of_pos t (show 0 < e by omega); omega
  unfold flr
  omega
theorem tmod_pos {t : Int} (h : 0 ≤ t) (e : Int) : t.tmod e = t % e := Int.tmod_eq_emod_of_nonneg h
set_option maxHeartbeats 1000000 in
theorem floor_any (t e : Int) (w : World) (h : 0 ≤ t ∧ t ≤ 9223372036854775807) (he : 1 ≤ e ∧ e ≤ 9223372036854775807) : Calls Try.prog 23 #[.int .i64 t, .int .i64 e] w fun x w' => x = .returned (.int .i64 (flr t e)) ∧ w = w' := by
  obtain ⟨h1, h2⟩ := h
  obtain ⟨e1, e2⟩ := he
  have hne : e ≠ 0 := by omega
  have g1 := Int.emod_nonneg t hne
  have g2 := flr_bd h1 e1
  have HT := Lib.hid (tmod_pos h1 e)
  have hd : decide (e < 1) = false := decide_eq_false (by omega)
  have hm : decide (t % e < 0) = false := decide_eq_false (by omega)
  have hm' : decide (t.tmod e < 0) = false := by rw [HT.out]; exact hm
  unfold flr at g2
  obtain ⟨g3, g4⟩ := g2
  go_enter Try.func23, Try.ntmps23
  go_wp2
  go_ret
  exact ⟨ret_int (by unfold flr; first | rfl | (rw [HT.out])), rfl⟩
end Go.Proofs.Ytcmlfepmgiikpaa
