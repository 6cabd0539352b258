/-
  Places of a table as keys of a map; what is known of values as its elements.
-/
import Derived.Test.YtdlmipoeeiaapaaAggOf
import Derived.Maps.OwnSet
import Derived.Maps.RangeWalk
import Derived.DeepKeys4
namespace Go.Proofs.Ytdlmipoeeiaapaa
open Go.RowKit Go.Maps

/-- What a place reads as. -/
def klit (s : ByteArray) (n : Int) : Lit := .string (keyBytes [.string s.data.toList, .int .i64 n])
abbrev placeV (s : ByteArray) (n : Int) : Value := .agg #[.string s, .int .i64 n]
theorem types_pos : ∃ m, Try.prog.types.size = m + 1 := by
  have h : 0 < Try.prog.types.size := of_decide_eq_true (by kernel_rfl)
  exact ⟨Try.prog.types.size - 1, by omega⟩
theorem place_law : Keyed Try.prog 60 := Keyed.of_law (deep_law_laid (by kernel_rfl) (m := 3) (by omega) (of_decide_eq_true (by kernel_rfl)) (by kernel_rfl) (by kernel_rfl))
theorem key_mk {s : ByteArray} {n : Int} (hs : s.size ≤ maxLen) (hn : (Lit.int .i64 n).wf = true) : keyOf Try.prog 60 (placeV s n) = some (klit s n) := by
  obtain ⟨m, hm⟩ := types_pos
  have h1 : Try.prog.keyType 60 = true := by kernel_rfl
  have h2 : (placeV s n).formed Try.prog 60 = true := by
    have hc : Try.prog.cellsOf 60 = 2 := by kernel_rfl
    simp [Value.formed, Try.underlying60, hc]
  have hc : Try.prog.cellsOf 60 = 2 := by kernel_rfl
  have c3 : Try.prog.cellsOf 3 = 1 := by kernel_rfl
  have c9 : Try.prog.cellsOf 9 = 1 := by kernel_rfl
  have h3 : Try.prog.keyLits (Try.prog.types.size + 1) 60 (placeV s n).cells.toList = some [.string s.data.toList, .int .i64 n] := by
    rw [hm]
    simp [Program.keyLits, Value.cells, Try.underlying60, Try.underlying9, Try.underlying3, hc, c3, c9, hs, hn]
  unfold keyOf
  rw [Try.underlying60]
  simp only [h1, h2, Bool.and_self, if_true, h3, Option.map_some]
  rfl
end Go.Proofs.Ytdlmipoeeiaapaa
