/-
  strings.Builder's WriteString, String; strings.Join: at this dump.
-/
import Derived.Test.YtnnamhomapagiaaGreatDoorPack
import Derived.Test.YtnnamhomapagiaaGreatDoorMem
import Derived.Lib.SmallJoins
namespace Go.Proofs.YtnnamhomapagiaaGreatDoor
open Go.RowKit

/-- A builder of the call's own that holds these bytes. -/
def Bld (w : World) (B b : Nat) (l : List UInt8) : Prop := Lib.IsBuilder 59 5 B b (Lib.byteCells l) w
theorem Bld.fresh (w : World) : Bld (w.alloc (.cells #[.pointer none, .slice none 0 0] 59)) w.heap.size w.heap.size [] := Lib.fresh_isBuilder _ _ w
theorem strCells_bytes (s : ByteArray) : Lib.strCells s = Lib.byteCells s.toList := by
  rw [ByteArray.toList_eq]; rfl
theorem byteCells_len (l : List UInt8) : (Lib.byteCells l).length = l.length := by simp [Lib.byteCells]
theorem writeS_any (B b : Nat) (l : List UInt8) (s : ByteArray) (w : World) (h : Bld w B b l) (hl : l.length + s.size ≤ 1000000) (hB : B ≤ w.heap.size) :
    Calls Tryz.prog 23 #[.pointer (some ⟨b, 0, none⟩), .string s] w fun e w' => e = .returned (.tuple #[.int .i64 s.size, .nilIface]) ∧ Bld w' B b (l ++ s.toList) ∧ Below B w w' := by
  have X := Any.Builder_WriteString (P := Tryz.prog) (ρ := Tryz.lays156_ren) { Tryz.lays156 with } Tryz.Builder_Extra_156 B b (Lib.byteCells l) s w h (by rw [byteCells_len]; omega) hB
  refine X.mono fun e w' ⟨he, h1, h2⟩ => ⟨he, .inr ?_, h2⟩
  rw [strCells_bytes, ← Lib.byteCells_append] at h1
  exact h1
theorem toS_any (B b : Nat) (l : List UInt8) (w : World) (h : Bld w B b l) (hB : B ≤ w.heap.size) :
    Calls Tryz.prog 26 #[.pointer (some ⟨b, 0, none⟩)] w fun e w' => e = .returned (.string ⟨l.toArray⟩) ∧ Below B w w' :=
  Tryz.Builder_String_any B b l w h hB
theorem Bld.below {w w' : World} {B b : Nat} {l : List UInt8} (h : Bld w B b l) (hb : Below w.heap.size w w') : Bld w' B b l := by
  have key : ∀ p, Lib.BuilderAt 59 5 B b p (Lib.byteCells l) w → Lib.BuilderAt 59 5 B b p (Lib.byteCells l) w' := fun p hp => by
    obtain ⟨h1, v, h2, h3, h4⟩ := hp
    refine ⟨h1, v, (hb.block b (lt_of_block h2)).trans h2, h3.kept ⟨hb.os, hb.tape, hb.output, hb.size, fun i hi _ => hb.block i hi⟩ (Classical.em (v.ownBlock = none)), h4⟩
  exact h.imp (key _) (key _)
end Go.Proofs.YtnnamhomapagiaaGreatDoor
