/-
  ViewTells: its walk, as the statement's frame wants it.
-/
import Derived.Test.YtcglbbabfkbcbadGreatViewTells
namespace Go.Proofs.YtcglbbabfkbcbadGreat
open Go.RowKit Go.Deep

theorem vt_bd {z : Int} (h : (Lit.int .i64 z).wf = true) : -9223372036854775808 ≤ z ∧ z ≤ 9223372036854775807 := by
  have : IntKind.i64.min = -9223372036854775808 ∧ IntKind.i64.max = 9223372036854775807 := by decide
  simpa [Lit.wf, this.1, this.2] using h
theorem walk_viewTells {w : World} {v0 : Value} (x : ByteArray × Option Addr × Nat × Nat × List Ti) (hx : PolArg w v0 x) (now : Int) (hnow : (Lit.int .i64 now).wf = true) (F : Option Addr) (m cf : Nat) (fls : List Int) (hF : Ints w .i64 F m fls) {v3 : Value} (y : Option Addr × Nat × Nat × List Smp) (hy : SmpsArg w v3 y) (tier : Int) (_ht : (Lit.int .i64 tier).wf = true) (s : ByteArray) (hs : s.size ≤ maxLen) (f : Int) (_hf : (Lit.int .i64 f).wf = true) (t : Int) (_ht' : (Lit.int .i64 t).wf = true) :
    Calls Tryz.prog 3 #[v0, .int .i64 now, .slice F m cf, v3, .int .i64 tier, .string s, .int .i64 f, .int .i64 t] w fun e w' => e = .returned (.bool true) ∧ Below w.heap.size w w' := by
  obtain ⟨nm, A, n, c, ts⟩ := x
  obtain ⟨hval, hnm, hts⟩ := hx
  simp only at hval hnm hts
  obtain ⟨C, k, ec, l⟩ := y
  obtain ⟨hval2, hsm⟩ := hy
  simp only at hval2 hsm
  subst hval hval2
  exact walk_viewTells0 nm A n c ts now F m cf fls C k ec l tier s f t w hnm hts (vt_bd hnow) hF hsm hs
end Go.Proofs.YtcglbbabfkbcbadGreat
