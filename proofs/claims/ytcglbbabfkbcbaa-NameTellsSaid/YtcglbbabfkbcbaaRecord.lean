/-
  A record by value: what it is made of, and how an argument that is one is opened.
-/
import Derived.Test.YtcglbbabfkbcbaaRows
import Derived.WalkKit
import Derived.ProofKit
import Derived.OpenShut
import Derived.ShutString
import Derived.Deep.Fields
namespace Go.Proofs.Ytcglbbabfkbcbaa
open Go.ChangeShapes Go.WideShapes Go.ChangeAt Go.RowKit
open Go.ChangeMaps (open_string shut_string)

/-- What a record holds. -/
structure Rec where
  name : ByteArray
  start : Int
  count : Int
  hi : Int
  lo : Int
  min : Int
  max : Int
def fits (n : Int) : Prop := -9223372036854775808 ≤ n ∧ n ≤ 9223372036854775807
/-- It fits the fields' kinds. -/
structure Rec.Ok (r : Rec) : Prop where
  name : r.name.size ≤ maxLen
  start : fits r.start
  count : fits r.count
  hi : fits r.hi
  lo : 0 ≤ r.lo ∧ r.lo ≤ 18446744073709551615
  min : fits r.min
  max : fits r.max
def Rec.cells (r : Rec) : List Value := [.string r.name, .int .i64 r.start, .int .i64 r.count, .int .i64 r.hi, .int .u64 r.lo, .int .i64 r.min, .int .i64 r.max]
/-- The value v is the record r. -/
structure Rec.Is (v : Value) (r : Rec) : Prop where
  val : v = .agg #[.string r.name, .int .i64 r.start, .int .i64 r.count, .int .i64 r.hi, .int .u64 r.lo, .int .i64 r.min, .int .i64 r.max]
  ok : r.Ok
theorem fits_wf {n : Int} (h : (Lit.int .i64 n).wf = true) : fits n := by
  have := bounds_i64 h
  unfold fits; omega
theorem fits_u64 {n : Int} (h : (Lit.int .u64 n).wf = true) : 0 ≤ n ∧ n ≤ 18446744073709551615 := bounds_u64 h
theorem cells_s : Try.prog.cellsOf 9 = 1 := by kernel_rfl
theorem cells_i : Try.prog.cellsOf 3 = 1 := by kernel_rfl
theorem cells_u : Try.prog.cellsOf 23 = 1 := by kernel_rfl
theorem cells_rec : Try.prog.cellsOf 27 = 7 := by kernel_rfl
theorem cells_agg : Try.prog.cellsOf 25 = 5 := by kernel_rfl
section
variable {H : Type} {enc : TypeId × Value → H} {w : World} {base : Nat} {spare : Nat → Bool} {held : Bool}
set_option maxRecDepth 100000 in
theorem agg_cells {fuel : Nat} {cs : List Value} {x : DataW H × List MemPlace} (h : DataW.trod enc Try.prog w base spare held fuel 25 cs = some x) :
    ∃ c hi lo mi ma : Int, cs = [.int .i64 c, .int .i64 hi, .int .u64 lo, .int .i64 mi, .int .i64 ma] ∧ fits c ∧ fits hi ∧ (0 ≤ lo ∧ lo ≤ 18446744073709551615) ∧ fits mi ∧ fits ma := by
  obtain ⟨xs, n, _, hx, hl, hlen, hg⟩ := DataW.trod_struct Try.underlying25 h
  rw [cells_agg] at hl
  match cs, hl, xs, hlen with
  | [c0, c1, c2, c3, c4], _, [y0, y1, y2, y3, y4], _ =>
    have g0 := hg 0 _ rfl
    have g1 := hg 1 _ rfl
    have g2 := hg 2 _ rfl
    have g3 := hg 3 _ rfl
    have g4 := hg 4 _ rfl
    clear hg
    simp [cells_i, cells_u] at g0 g1 g2 g3 g4
    obtain ⟨n0, e0, _, b0⟩ := DataW.trod_int Try.underlying3 g0
    obtain ⟨n1, e1, _, b1⟩ := DataW.trod_int Try.underlying3 g1
    obtain ⟨n2, e2, _, b2⟩ := DataW.trod_int Try.underlying23 g2
    obtain ⟨n3, e3, _, b3⟩ := DataW.trod_int Try.underlying3 g3
    obtain ⟨n4, e4, _, b4⟩ := DataW.trod_int Try.underlying3 g4
    simp at e0 e1 e2 e3 e4
    subst e0 e1 e2 e3 e4
    exact ⟨n0, n1, n2, n3, n4, rfl, fits_wf b0, fits_wf b1, fits_u64 b2, fits_wf b3, fits_wf b4⟩
set_option maxRecDepth 100000 in
theorem rec_cells {fuel : Nat} {cs : List Value} {x : DataW H × List MemPlace} (h : DataW.trod enc Try.prog w base spare held fuel 27 cs = some x) : ∃ r : Rec, cs = r.cells ∧ r.Ok := by
  obtain ⟨xs, n, _, hx, hl, hlen, hg⟩ := DataW.trod_struct Try.underlying27 h
  rw [cells_rec] at hl
  match cs, hl, xs, hlen with
  | [c0, c1, c2, c3, c4, c5, c6], _, [y0, y1, y2], _ =>
    have g0 := hg 0 _ rfl
    have g1 := hg 1 _ rfl
    have g2 := hg 2 _ rfl
    clear hg
    simp [cells_s, cells_i, cells_agg] at g0 g1 g2
    obtain ⟨s, e0, _, b0⟩ := DataW.trod_string Try.underlying9 g0
    obtain ⟨n1, e1, _, b1⟩ := DataW.trod_int Try.underlying3 g1
    obtain ⟨c, hi, lo, mi, ma, e2, b2, b3, b4, b5, b6⟩ := agg_cells g2
    simp at e0 e1 e2
    obtain ⟨rfl, rfl, rfl, rfl, rfl⟩ := e2
    subst e0 e1
    exact ⟨⟨s, n1, c, hi, lo, mi, ma⟩, rfl, b0, fits_wf b1, b2, b3, b4, b5, b6⟩
set_option maxRecDepth 100000 in
theorem rec_open {r : Reach} {b0 : Nat} {v : Value} {d : DataW H} {p : List MemPlace} (hv : Value.okWide Try.prog w r b0 27 v) (h : DataW.Trod enc Try.prog w base spare held 27 v d p) : ∃ r : Rec, Rec.Is v r := by
  obtain ⟨cs, rfl, _⟩ := okWide_struct Try.underlying27 hv
  obtain ⟨fuel, hf⟩ := h
  obtain ⟨r, e, ho⟩ := rec_cells hf
  obtain ⟨l⟩ := cs
  have e' : l = r.cells := by simpa [Value.cells] using e
  subst e'
  exact ⟨r, rfl, ho⟩
end
end Go.Proofs.Ytcglbbabfkbcbaa
