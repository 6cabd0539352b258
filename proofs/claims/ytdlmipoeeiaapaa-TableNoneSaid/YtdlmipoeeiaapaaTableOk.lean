/-
  What is known of a table's records.
-/
import Derived.Test.YtdlmipoeeiaapaaTable
namespace Go.Proofs.Ytdlmipoeeiaapaa
open Go.RowKit Go.Maps

theorem TableAt.ok {w : World} {g mm : Nat} {ev : Int} {l : List Rc} (h : TableAt w g mm ev l) : ∀ r ∈ l, r.Ok := by obtain ⟨_, _, hr⟩ := h.map.own; exact hr.ok
theorem TableAt.ord {w : World} {g mm : Nat} {ev : Int} {l : List Rc} (h : TableAt w g mm ev l) : l.Pairwise Rc.lt := by obtain ⟨_, _, hr⟩ := h.map.own; exact hr.ord
end Go.Proofs.Ytdlmipoeeiaapaa
