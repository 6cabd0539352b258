/-
  name.Less.
-/
import Derived.Test.YtcglbbabfkbcbaaName
namespace Go.Proofs.Ytcglbbabfkbcbaa
open Go.RowKit

set_option maxHeartbeats 1000000 in
theorem less_any (a b : ByteArray) (x y : Int) (r s t u v r' s' t' u' v' : Value) (w : World) :
    Calls Try.prog 17 #[.agg #[.string a, .int .i64 x, r, s, t, u, v], .agg #[.string b, .int .i64 y, r', s', t', u', v']] w fun e w' => e = .returned (.bool (aheadB a.toList x b.toList y)) ∧ Below w.heap.size w w' := by
  go_enter Try.func17, Try.ntmps17
  go_wp2_with (go_at_call 26; refine (compare_any _ _ _ _ _ _ _ _ _ _ _ _ _ _ _).mono ?_; rintro e w1 ⟨rfl, hb⟩)
  go_ret
  exact ⟨rfl, (((Below.refl _ _).alloc (by omega) _).alloc (by simp) _).trans (hb.mono (by simp; omega))⟩

end Go.Proofs.Ytcglbbabfkbcbaa
