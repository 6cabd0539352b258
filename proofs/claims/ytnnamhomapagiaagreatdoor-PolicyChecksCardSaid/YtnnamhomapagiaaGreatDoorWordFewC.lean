/-
  word.Cut of a text that is not too long.
-/
import Derived.Test.YtnnamhomapagiaaGreatDoorWordFewB
import Derived.Test.YtnnamhomapagiaaGreatDoorWordCutP
import Derived.Laws.BytesArg
import Derived.Laws.Concat
namespace Go.Proofs.YtnnamhomapagiaaGreatDoor
open Go.RowKit

theorem cut_small (s : ByteArray) (w : World) (hs : s.size ≤ 4000) (hm : ∃ m : Int, w.cell? ⟨0, 0, none⟩ = some (.int .i64 m)) :
    Calls Tryz.prog 64 #[.string s] w fun e w' => Below w.heap.size w w' ∧
      ((cutE 1 (linesL s) ≠ 0 ∧ e = .returned (.tuple #[.pointer none, .int .i64 22, .int .i64 (cutE 1 (linesL s))])) ∨
       (cutE 1 (linesL s) = 0 ∧ ∃ g, w.heap.size ≤ g ∧ e = .returned (.tuple #[.pointer (some ⟨g, 0, none⟩), .int .i64 0, .int .i64 0]) ∧ WordsAt w' g 0 (cutW 1 (linesL s)))) :=
  (cut_any s w (by unfold maxLen; omega) hm).mono fun e w' ⟨hb, h⟩ => ⟨hb, h.elim (fun h => absurd h.1 (by omega)) (fun h => h.imp (fun h => h.2) (fun h => h.2))⟩
end Go.Proofs.YtnnamhomapagiaaGreatDoor
