/-
  grid.Floor, grid.Divides, of what is not below nought.
-/
import Derived.Test.YtdlmipoeeiaapaaTableOn
namespace Go.Proofs.Ytdlmipoeeiaapaa
open Go.RowKit

/-- The greatest multiple that is not above. -/
def flr (t e : Int) : Int := t - t % e
theorem flr_bd {t e : Int} (h : 0 ≤ t) (he : 1 ≤ e) : 0 ≤ flr t e ∧ flr t e ≤ t := by
  have h1 := Int.emod_nonneg t (show e ≠ 0 by omega)
  have h2 : t % e ≤ t := by
    rcases Int.lt_or_le t e with h3 | h3
    · rw [Int.emod_eq_of_lt h h3]; omega
    · have := Int.emod_lt_of_pos t (show 0 < e by omega); omega
  unfold flr
  omega
theorem tmod_pos {t : Int} (h : 0 ≤ t) (e : Int) : t.tmod e = t % e := Int.tmod_eq_emod_of_nonneg h
set_option maxHeartbeats 1000000 in
theorem floor_any (t e : Int) (w : World) (h : 0 ≤ t ∧ t ≤ 9223372036854775807) (he : 1 ≤ e ∧ e ≤ 9223372036854775807) : Calls Try.prog 38 #[.int .i64 t, .int .i64 e] w fun x w' => x = .returned (.int .i64 (flr t e)) ∧ w = w' := by
  obtain ⟨h1, h2⟩ := h
  obtain ⟨e1, e2⟩ := he
  have hne : e ≠ 0 := by omega
  have g1 := Int.emod_nonneg t hne
  have g2 := flr_bd h1 e1
  have HT := Lib.hid (tmod_pos h1 e)
  have hd : decide (e < 1) = false := decide_eq_false (by omega)
  have hm : decide (t % e < 0) = false := decide_eq_false (by omega)
  have hm' : decide (t.tmod e < 0) = false := by rw [HT.out]; exact hm
  unfold flr at g2
  obtain ⟨g3, g4⟩ := g2
  go_enter Try.func38, Try.ntmps38
  go_wp2
  go_ret
  exact ⟨ret_int (by unfold flr; first | rfl | (rw [HT.out])), rfl⟩
set_option maxHeartbeats 1000000 in
theorem divides_any (a b : Int) (w : World) (ha : 1 ≤ a ∧ a ≤ 9223372036854775807) (hb : 0 ≤ b ∧ b ≤ 9223372036854775807) : Calls Try.prog 37 #[.int .i64 a, .int .i64 b] w fun x w' => x = .returned (.bool (decide (b % a = 0))) ∧ w = w' := by
  obtain ⟨h1, h2⟩ := ha
  obtain ⟨e1, e2⟩ := hb
  have hne : a ≠ 0 := by omega
  have HT := Lib.hid (tmod_pos e1 a)
  go_enter Try.func37, Try.ntmps37
  go_wp2
  go_ret
  exact ⟨ret_bool (by first | rfl | (rw [HT.out]; rfl) | (rw [Bool.eq_iff_iff]; simp) | (rw [HT.out, Bool.eq_iff_iff]; simp)), rfl⟩
set_option maxHeartbeats 1000000 in
theorem refFloor_any (t e : Int) (w : World) (h : 0 ≤ t ∧ t ≤ 9223372036854775807) (he : 1 ≤ e ∧ e ≤ 9223372036854775807) : Calls Try.prog 17 #[.int .i64 t, .int .i64 e] w fun x w' => x = .returned (.int .i64 (flr t e)) ∧ w = w' := by
  obtain ⟨h1, h2⟩ := h
  obtain ⟨e1, e2⟩ := he
  have hne : e ≠ 0 := by omega
  have g1 := Int.emod_nonneg t hne
  have g2 := flr_bd h1 e1
  have HT := Lib.hid (tmod_pos h1 e)
  have hd : decide (e < 1) = false := decide_eq_false (by omega)
  have hm : decide (t % e < 0) = false := decide_eq_false (by omega)
  have hm' : decide (t.tmod e < 0) = false := by rw [HT.out]; exact hm
  unfold flr at g2
  obtain ⟨g3, g4⟩ := g2
  have hl : decide (t < -9223372036854775808 + t % e) = false := decide_eq_false (by omega)
  go_enter Try.func17, Try.ntmps17
  go_wp2
  go_ret
  exact ⟨ret_int (by unfold flr; first | rfl | (rw [HT.out])), rfl⟩
end Go.Proofs.Ytdlmipoeeiaapaa
