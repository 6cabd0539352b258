/-
  A block of the call's own that is known whole.
-/
import Derived.Test.YtcglbbabfkbcbacMem
import Derived.Below
import Derived.Laws.OwnMore
import Derived.Deep.Draws
import Derived.Laws.Rows
namespace Go.Proofs.Ytcglbbabfkbcbac
open Go.RowKit

/-- Block g is just these cells. -/
structure Bx (w : World) (g : Nat) (T : TypeId) (cs : Array Value) : Prop where
  blk : w.heap[g]? = some (.cells cs T (0, 0))
section
variable {w w' : World} {g : Nat} {T : TypeId} {cs : Array Value}
theorem Bx.lt (h : Bx w g T cs) : g < w.heap.size := lt_of_block h.blk
theorem Bx.cell (h : Bx w g T cs) (i : Nat) : w.cell? ⟨g, i, none⟩ = cs[i]? := cell_of_row w g i cs T (0, 0) h.blk
theorem Bx.at_ (h : Bx w g T cs) (i : Nat) {v : Value} (e : cs[i]? = some v) : w.cell? ⟨g, i, none⟩ = some v := (h.cell i).trans e
theorem Bx.free (h : Bx w g T cs) (i : Nat) : w.frozen? ⟨g, i, none⟩ = false := frozen_of_row w g i _ _ h.blk
theorem Bx.new (w : World) (T : TypeId) (cs : Array Value) : Bx (w.alloc (.cells cs T)) w.heap.size T cs := ⟨heap_alloc_new w _⟩
theorem Bx.below (h : Bx w g T cs) (hb : Below w.heap.size w w') : Bx w' g T cs := ⟨(hb.block g h.lt).trans h.blk⟩
theorem Bx.alloc (h : Bx w g T cs) (o : Obj) : Bx (w.alloc o) g T cs := h.below ((Below.refl _ _).alloc (Nat.le_refl _) o)
theorem Bx.drew (h : Bx w g T cs) : Bx w.drew g T cs := h.below ((Below.refl _ _).drew)
theorem Bx.set (h : Bx w g T cs) (i : Nat) (u : Value) : Bx (w.setCell ⟨g, i, none⟩ u) g T (cs.setIfInBounds i u) := ⟨heap_setCell_same w g i cs T u h.blk⟩
theorem Bx.other (h : Bx w g T cs) {p : Addr} (hp : g ≠ p.block) (u : Value) : Bx (w.setCell p u) g T cs := ⟨(heap_setCell_other w p g u hp).trans h.blk⟩
theorem Bx.grown (h : Bx w g T cs) {row : Option Nat} (hg : w.grownBy w' row) (hne : some g ≠ row) : Bx w' g T cs := ⟨(hg.block g h.lt hne).trans h.blk⟩
end
end Go.Proofs.Ytcglbbabfkbcbac
