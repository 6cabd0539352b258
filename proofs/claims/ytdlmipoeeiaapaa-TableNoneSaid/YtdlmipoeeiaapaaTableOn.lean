/-
  grid.On; whether a record may stand in a table.
-/
import Derived.Test.YtdlmipoeeiaapaaTable
import Derived.Test.YtdlmipoeeiaapaaName
import Derived.Deep.RegionHeld3
namespace Go.Proofs.Ytdlmipoeeiaapaa
open Go.RowKit Go.Maps

def onB (t e : Int) : Bool := decide (1 ≤ e ∧ t.tmod e = 0)
set_option maxHeartbeats 400000 in
theorem on_any (t e : Int) (w : World) (_ : -9223372036854775808 ≤ t ∧ t ≤ 9223372036854775807) (_ : -9223372036854775808 ≤ e ∧ e ≤ 9223372036854775807) : Calls Try.prog 50 #[.int .i64 t, .int .i64 e] w fun x w' => x = .returned (.bool (onB t e)) ∧ w = w' := by
  by_cases h1 : 1 ≤ e
  · have hne : e ≠ 0 := by omega
    have HF := Lib.hid (show onB t e = decide (t.tmod e = 0) from by unfold onB; simp [h1])
    go_enter Try.func50, Try.ntmps50
    go_wp2
    go_ret
    exact ⟨ret_bool (by rw [HF.out]; first | rfl | simp | (rw [Bool.eq_iff_iff]; simp)), rfl⟩
  · have HF := Lib.hid (show onB t e = false from decide_eq_false (by omega))
    have hd : decide (1 ≤ e) = false := decide_eq_false h1
    go_enter Try.func50, Try.ntmps50
    go_wp2
    go_ret
    exact ⟨ret_bool HF.out.symm, rfl⟩
theorem one_cell {w : World} {b : Nat} {s : ByteArray} (h : w.cell? ⟨b, 0, none⟩ = some (.string s)) : ∀ i (hi : i < [s].length), w.cell? ⟨b, 0 + i, none⟩ = some (.string ([s][i])) := by
  intro i hi
  have : i = 0 := by simpa using hi
  subst this
  exact h
theorem cell_keep {w : World} {o : Obj} {a : Addr} {v : Value} (h : w.cell? a = some v) : (w.alloc o).cell? a = some v := (World.grownBy_alloc w o none).cell h (by simp)
def rightR (ev : Int) (r : Rc) : Bool := validB r.nm.toList && decide (0 ≤ r.st) && onB r.st ev && validG r.ag
end Go.Proofs.Ytdlmipoeeiaapaa
