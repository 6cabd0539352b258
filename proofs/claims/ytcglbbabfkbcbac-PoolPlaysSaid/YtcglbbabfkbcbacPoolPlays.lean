/-
  PoolPlays: its walk, whole.
-/
import Derived.Test.YtcglbbabfkbcbacPoolPlaysF
namespace Go.Proofs.Ytcglbbabfkbcbac
open Go.RowKit Go.Maps

/-- The steps as an argument. -/
def OpsV (w : World) (v : Value) (os : List OpV) : Prop := ∃ A n cap, v = .slice A n cap ∧ Ops w A n os
set_option maxRecDepth 100000 in
open Go.ChangeShapes Go.WideShapes Go.ChangeAt in
theorem open_ops {H : Type} {enc : TypeId × Value → H} {w : World} {base b0 : Nat} {spare : Nat → Bool} {held : Bool} {r : Reach} {v : Value} {d : DataW H} {p : List MemPlace}
    (hv : Value.okWide Try.prog w r b0 22 v) (h : DataW.Trod enc Try.prog w base spare held 22 v d p) : ∃ os, OpsV w v os := by
  obtain ⟨A, n, c, rfl⟩ := okWide_slice Try.underlying22 hv
  obtain ⟨os, ho⟩ := ops_of_open h
  exact ⟨os, A, n, c, rfl, ho⟩
theorem walk_poolPlays (f : Int) (hf : (Lit.int .i64 f).wf = true) (n : Int) (_hn : (Lit.int .i64 n).wf = true) (zero : Bool) {v : Value} (os : List OpV) (w : World) (hv : OpsV w v os) :
    Calls Try.prog 3 #[.int .i64 f, .int .i64 n, .bool zero, v] w fun e w' => e = .returned (.bool true) ∧ Below w.heap.size w w' := by
  obtain ⟨A, len, cap, rfl, h⟩ := hv
  by_cases h6 : n ≤ 60
  · exact plays_small f n zero A len cap os w h (wf_bd hf) h6
  · exact plays_big f n zero A len cap os w h (wf_bd hf) (by omega)
end Go.Proofs.Ytcglbbabfkbcbac
