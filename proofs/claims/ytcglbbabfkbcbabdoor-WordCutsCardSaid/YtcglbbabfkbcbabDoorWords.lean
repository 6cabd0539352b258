/-
  Slices of words, as lists.
-/
import Derived.Test.YtcglbbabfkbcbabDoorWordLineOf
import Derived.Test.YtcglbbabfkbcbabDoorBox
namespace Go.Proofs.YtcglbbabfkbcbabDoor
open Go.RowKit

structure Wd.Ok (x : Wd) : Prop where
  any : x = x
theorem wcells_len (x : Wd) : (wcells x).length = 3 := rfl
theorem wds_one (l : List Wd) : ∀ u ∈ l.flatMap wcells, u.oneCell' = true := wrow_one l
/-- A slice of n words. -/
structure Wds (w : World) (A : Option Addr) (n : Nat) (l : List Wd) : Prop where
  sl : Sl w A (l.flatMap wcells)
  len : l.length = n
  n_le : n ≤ maxLen
  ok : ∀ t ∈ l, t.Ok
structure WdCells (w : World) (b off : Nat) (t : Wd) : Prop where
  c0 : w.cell? ⟨b, off, none⟩ = some (.string ⟨t.text.toArray⟩)
  c1 : w.cell? ⟨b, off + 1, none⟩ = some (.int .i64 t.line)
  c2 : w.cell? ⟨b, off + 2, none⟩ = some (.int .i64 t.col)
theorem sl_word {w : World} {A : Option Addr} {l : List Wd} (h : Sl w A (l.flatMap wcells)) {j : Nat} (hj : j < l.length) : ∃ b off, A = some ⟨b, off, none⟩ ∧ b < w.heap.size ∧ WdCells w b (off + j * 3) l[j] := by
  obtain ⟨b, off, e, hb, hc⟩ := h.at_ (fun e => by have := wrow_len l; unfold wrow at this; rw [e] at this; simp at this; omega)
  obtain ⟨r0, r1, r2⟩ := wrow_get l j hj
  refine ⟨b, off, e, hb, ?_, ?_, ?_⟩
  · exact hc (j * 3) _ r0
  · rw [Nat.add_assoc]; exact hc (j * 3 + 1) _ r1
  · rw [Nat.add_assoc]; exact hc (j * 3 + 2) _ r2
theorem Wds.get {w : World} {A : Option Addr} {n : Nat} {l : List Wd} (h : Wds w A n l) {j : Nat} (hj : j < l.length) : ∃ b off, A = some ⟨b, off, none⟩ ∧ b < w.heap.size ∧ WdCells w b (off + j * 3) l[j] := sl_word h.sl hj
theorem Wds.below {w w' : World} {A : Option Addr} {n : Nat} {l : List Wd} (h : Wds w A n l) (hb : Below w.heap.size w w') : Wds w' A n l := ⟨h.sl.below hb, h.len, h.n_le, h.ok⟩
end Go.Proofs.YtcglbbabfkbcbabDoor
