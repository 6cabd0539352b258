/-
  Which records may stand in a table.
-/
import Derived.Test.YtcmlfepmgiikpaaTableV
import Derived.Deep.RegionHeld3
namespace Go.Proofs.Ytcmlfepmgiikpaa
open Go.RowKit Go.Maps

def onB (t e : Int) : Bool := decide (1 ≤ e ∧ t.tmod e = 0)
def rightR (ev : Int) (r : Rc) : Bool := validB r.nm.toList && decide (0 ≤ r.st) && onB r.st ev && validG r.ag
end Go.Proofs.Ytcmlfepmgiikpaa
