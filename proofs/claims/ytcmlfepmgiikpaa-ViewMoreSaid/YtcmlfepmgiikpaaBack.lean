/-
  grid.Floor at whatever number; grid.Back.
-/
import Derived.Test.YtcmlfepmgiikpaaGridV
namespace Go.Proofs.Ytcmlfepmgiikpaa
open Go.RowKit

/-- The start of a bucket; of none, the time itself. -/
def flrE (t e : Int) : Int := if e < 1 then t else flr t e
set_option maxHeartbeats 1000000 in
theorem floorE_any (t e : Int) (w : World) (h : 0 ≤ t ∧ t ≤ 9223372036854775807) (he : -9223372036854775808 ≤ e ∧ e ≤ 9223372036854775807) : Calls Try.prog 23 #[.int .i64 t, .int .i64 e] w fun x w' => x = .returned (.int .i64 (flrE t e)) ∧ w = w' := by
  by_cases h1 : e < 1
  · have HF := Lib.hid (show flrE t e = t from if_pos h1)
    go_enter Try.func23, Try.ntmps23
    go_wp2
    go_ret
    exact ⟨ret_int HF.out.symm, rfl⟩
  · rw [show flrE t e = flr t e from if_neg h1]
    exact floor_any t e w h ⟨by omega, he.2⟩
theorem tmod_neg_bd {t e : Int} (h : t < 0) (he : 1 ≤ e) : -e < t.tmod e ∧ t.tmod e ≤ 0 ∧ t ≤ t.tmod e := by
  obtain ⟨u, rfl⟩ : ∃ u : Int, t = -u := ⟨-t, by omega⟩
  rw [Int.neg_tmod]
  have h1 := Int.tmod_lt_of_pos u (show 0 < e by omega)
  have h2 : 0 ≤ u.tmod e := Int.tmod_nonneg _ (by omega)
  have h3 : u.tmod e ≤ u := by
    rw [Int.tmod_eq_emod_of_nonneg (by omega)]
    rcases Int.lt_or_le u e with h3 | h3
    · rw [Int.emod_eq_of_lt (by omega) h3]; omega
    · have := Int.emod_lt_of_pos u (show 0 < e by omega); omega
  omega
def LowSays (w : World) (x : Ending) (w' : World) : Prop := ∃ z : Int, x = .returned (.int .i64 z) ∧ z ≤ 0 ∧ -9223372036854775808 ≤ z ∧ w = w'
set_option maxHeartbeats 1000000 in
theorem floor_low (t e : Int) (w : World) (h : -9223372036854775808 ≤ t ∧ t < 0) (he : 1 ≤ e ∧ e ≤ 9223372036854775807) : Calls Try.prog 23 #[.int .i64 t, .int .i64 e] w (LowSays w) := by
  obtain ⟨h1, h2⟩ := h
  obtain ⟨e1, e2⟩ := he
  have hne : e ≠ 0 := by omega
  have hd : decide (e < 1) = false := decide_eq_false (by omega)
  obtain ⟨g1, g2, g3⟩ := tmod_neg_bd h2 e1
  have hend : ∀ z : Int, z ≤ 0 → -9223372036854775808 ≤ z → LowSays w (.returned (.int .i64 z)) w := fun z a b => ⟨z, rfl, a, b, rfl⟩
  have HE := Lib.hid hend
  clear hend
  go_enter Try.func23, Try.ntmps23
  go_wp2
  all_goals
    go_ret
    exact HE.out _ (by omega) (by omega)
/-- How far back a tier reaches. -/
def backI (now keep ev : Int) : Int := if now < 0 ∨ keep < 0 ∨ ev < 1 ∨ now < keep then 0 else flr (now - keep) ev
theorem backI_bd {now keep ev : Int} (h : now ≤ 9223372036854775807) : 0 ≤ backI now keep ev ∧ backI now keep ev ≤ 9223372036854775807 := by
  unfold backI
  split
  · omega
  · have := flr_bd (t := now - keep) (e := ev) (by omega) (by omega)
    omega
set_option maxHeartbeats 1000000 in
theorem back_any (now keep ev : Int) (w : World) (hn : -9223372036854775808 ≤ now ∧ now ≤ 9223372036854775807) (hk : -9223372036854775808 ≤ keep ∧ keep ≤ 9223372036854775807) (he : -9223372036854775808 ≤ ev ∧ ev ≤ 9223372036854775807) :
    Calls Try.prog 34 #[.int .i64 now, .int .i64 keep, .int .i64 ev] w fun x w' => x = .returned (.int .i64 (backI now keep ev)) ∧ w = w' := by
  by_cases h1 : now < 0
  · have HF := Lib.hid (show backI now keep ev = 0 from if_pos (.inl h1))
    go_enter Try.func34, Try.ntmps34
    go_wp2
    go_ret
    exact ⟨ret_int HF.out.symm, rfl⟩
  · have hd1 : decide (now < 0) = false := decide_eq_false h1
    by_cases h2 : keep < 0
    · have HF := Lib.hid (show backI now keep ev = 0 from if_pos (.inr (.inl h2)))
      go_enter Try.func34, Try.ntmps34
      go_wp2
      go_ret
      exact ⟨ret_int HF.out.symm, rfl⟩
    · have hd2 : decide (keep < 0) = false := decide_eq_false h2
      by_cases h3 : ev < 1
      · have HF := Lib.hid (show backI now keep ev = 0 from if_pos (.inr (.inr (.inl h3))))
        go_enter Try.func34, Try.ntmps34
        go_wp2
        go_ret
        exact ⟨ret_int HF.out.symm, rfl⟩
      · have hd3 : decide (ev < 1) = false := decide_eq_false h3
        by_cases h4 : now < keep
        · have HF := Lib.hid (show backI now keep ev = 0 from if_pos (.inr (.inr (.inr h4))))
          go_enter Try.func34, Try.ntmps34
          go_wp2_with fail
          refine (floor_low (now - keep) ev _ ⟨by omega, by omega⟩ ⟨by omega, he.2⟩).mono ?_
          rintro e w1 ⟨z, rfl, hz, hz2, rfl⟩
          have HM := Lib.hid (show max z 0 = 0 from by omega)
          go_wp2
          go_ret
          exact ⟨ret_int (by rw [HF.out]; exact HM.out), rfl⟩
        · have HF := Lib.hid (show backI now keep ev = flr (now - keep) ev from if_neg (by omega))
          have hb := flr_bd (t := now - keep) (e := ev) (by omega) (by omega)
          have HM := Lib.hid (show max (flr (now - keep) ev) 0 = flr (now - keep) ev from by omega)
          clear hb
          go_enter Try.func34, Try.ntmps34
          go_wp2_with fail
          refine (floor_any (now - keep) ev _ ⟨by omega, by omega⟩ ⟨by omega, he.2⟩).mono ?_
          rintro e w1 ⟨rfl, rfl⟩
          go_wp2
          go_ret
          exact ⟨ret_int (by rw [HF.out]; exact HM.out), rfl⟩
end Go.Proofs.Ytcmlfepmgiikpaa
