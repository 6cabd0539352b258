/-
  The package pool: what its calls do to the set of used blocks.
-/
import Derived.Test.YtcglbbabfkbcbacSets
import Derived.Test.YtcglbbabfkbcbacMem
import Derived.WalkSpells
import Derived.WalkLawsBesides
import Derived.Lib.Hide
import Derived.Outline
import Derived.Deep.QuietTactic
import Derived.BigQuiet
import Derived.Maps.OwnOps
import Derived.IntWalk
namespace Go.Proofs.Ytcglbbabfkbcbac
open Go.RowKit Go.Maps

theorem ret_bool {a b : Bool} (h : a = b) : Ending.returned (.bool a) = .returned (.bool b) := by rw [h]
theorem ret_int {k : IntKind} {a b : Int} (h : a = b) : Ending.returned (.int k a) = .returned (.int k b) := by rw [h]
theorem wf_i64 {z : Int} (h : -9223372036854775808 ≤ z ∧ z ≤ 9223372036854775807) : (Lit.int .i64 z).wf = true := by
  have : IntKind.i64.min = -9223372036854775808 ∧ IntKind.i64.max = 9223372036854775807 := by decide
  simp [Lit.wf, this.1, this.2, h.1, h.2]
theorem zero_unit (w : World) : (zeroValue 58).run Try.prog w = .ok (.agg #[]) w := by kernel_rfl

/-- A block that begins as a pool's: its first block, how many there are, the map of those that are used. -/
def PoolBlk (o : Option Obj) (m : Nat) (from_ n : Int) : Prop := ∃ (tl : List Value) (T : TypeId), o = some (.cells ⟨.int .i64 from_ :: .int .i64 n :: .map (some m) :: tl⟩ T (0, 0))
theorem PoolBlk.keep {o o' : Option Obj} {m : Nat} {f n : Int} (h : PoolBlk o m f n) (e : o' = o) : PoolBlk o' m f n := e ▸ h
/-- The pool at block g: its first block, how many there are, and which are used. -/
structure PoolAt (w : World) (g m : Nat) (from_ n : Int) (us : List Int) : Prop where
  blk : PoolBlk w.heap[g]? m from_ n
  set : SetAt w m us
  rng : 0 ≤ from_ ∧ from_ ≤ 9223372036854775807 ∧ 0 ≤ n ∧ n ≤ 4096 ∧ (n = 0 ∨ from_ ≤ 4096)
  ins : ∀ z ∈ us, from_ ≤ z ∧ z < from_ + n
theorem PoolAt.lt {w : World} {g m : Nat} {f n : Int} {us : List Int} (h : PoolAt w g m f n us) : g < w.heap.size := by obtain ⟨_, _, e⟩ := h.blk; exact lt_of_block e
theorem PoolAt.ne {w : World} {g m : Nat} {f n : Int} {us : List Int} (h : PoolAt w g m f n us) : g ≠ m := by
  intro e
  obtain ⟨es, c, h1, _⟩ := h.set.own
  obtain ⟨_, _, this⟩ := h.blk
  rw [e, h1] at this; cases this
theorem PoolAt.cells {w : World} {g m : Nat} {f n : Int} {us : List Int} (h : PoolAt w g m f n us) : w.cell? ⟨g, 0, none⟩ = some (.int .i64 f) ∧ w.cell? ⟨g, 1, none⟩ = some (.int .i64 n) ∧ w.cell? ⟨g, 2, none⟩ = some (.map (some m)) := by
  obtain ⟨_, _, e⟩ := h.blk
  exact ⟨cell_of_row w g 0 _ _ _ e, cell_of_row w g 1 _ _ _ e, cell_of_row w g 2 _ _ _ e⟩
theorem PoolAt.below {w w' : World} {g m : Nat} {f n : Int} {us : List Int} (h : PoolAt w g m f n us) (hb : Below w.heap.size w w') : PoolAt w' g m f n us :=
  ⟨h.blk.keep (hb.block g h.lt), h.set.below hb h.set.lt, h.rng, h.ins⟩
theorem PoolAt.far {w w' : World} {g m : Nat} {f n : Int} {us : List Int} {row : Option Nat} (h : PoolAt w g m f n us) (hg : w.grownBy w' row) (h1 : some g ≠ row) (h2 : some m ≠ row) : PoolAt w' g m f n us :=
  ⟨h.blk.keep (hg.block g h.lt h1), h.set.grown hg h2, h.rng, h.ins⟩
theorem rising_len : ∀ {l : List Int} {a b : Int}, Rising l → a ≤ b → (∀ z ∈ l, a ≤ z ∧ z < b) → (l.length : Int) ≤ b - a
  | [], a, b, _, hab, _ => by simp; omega
  | y :: r, a, b, h, _, hi => by
    unfold Rising at h
    rw [List.pairwise_cons] at h
    have hy := hi y (by simp)
    have := rising_len (l := r) (a := y + 1) (b := b) h.2 (by omega) (fun z hz => ⟨by have := h.1 z hz; omega, (hi z (by simp [hz])).2⟩)
    simp only [List.length_cons]; omega
theorem PoolAt.size_le {w : World} {g m : Nat} {f n : Int} {us : List Int} (h : PoolAt w g m f n us) : (us.length : Int) ≤ n := by
  have := rising_len h.set.rising (a := f) (b := f + n) (by have := h.rng; omega) h.ins
  omega

set_option maxHeartbeats 1000000 in
theorem has_any (g m : Nat) (f n : Int) (us : List Int) (z : Int) (w : World) (h : PoolAt w g m f n us) (hz : (Lit.int .i64 z).wf = true) :
    Calls Try.prog 17 #[.pointer (some ⟨g, 0, none⟩), .int .i64 z] w fun e w' => e = .returned (.bool (decide (z ∈ us))) ∧ Below w.heap.size w w' := by
  obtain ⟨c0, c1, c2⟩ := h.cells
  have hown := h.set.own
  go_enter Try.func17, Try.ntmps17
  go_wp2_with (at_lookup; refine wpList_lookup_own_unit _ rfl _ _ 28 rfl 3 58 int_law Try.underlying28 (zero_unit _) m us.length (setD us) rfl hown _ _ rfl (keyOf_int_mk Try.underlying3 hz) ?_)
  go_ret
  exact ⟨ret_bool (has_setD us z), (Below.refl _ _).alloc (Nat.le_refl _) _⟩

set_option maxHeartbeats 1000000 in
theorem free_any (g m : Nat) (f n : Int) (us : List Int) (w : World) (h : PoolAt w g m f n us) :
    Calls Try.prog 16 #[.pointer (some ⟨g, 0, none⟩)] w fun e w' => e = .returned (.int .i64 (n - us.length)) ∧ Below w.heap.size w w' := by
  obtain ⟨c0, c1, c2⟩ := h.cells
  have hlen : ∀ q ty, (Builtin.len_ #[28] ty #[.map (some m)]).run Try.prog (w.drewN q) = .ok (.int .i64 us.length) (w.drewN q) := fun q ty => by
    have hd : (w.drewN q).ownsMap Try.prog 3 (unitElem (H := Unit)) m us.length (setD us) := h.set.own
    rw [hd.len Try.underlying28 ty, size_setD]
  have hs := h.size_le
  obtain ⟨_, _, h3, h4, _⟩ := h.rng
  go_enter Try.func16, Try.ntmps16
  go_wp2
  go_quiet (fail)
  go_wp2
  go_ret
  exact ⟨rfl, below_drewN (Below.refl _ _) _⟩
def NewSays (from_ n : Int) (w : World) (e : Ending) (w' : World) : Prop :=
  ∃ g m f k, e = .returned (.pointer (some ⟨g, 0, none⟩)) ∧ PoolAt w' g m f k [] ∧ Below w.heap.size w w' ∧ w.heap.size ≤ g ∧ w.heap.size ≤ m ∧
    f = max from_ 0 ∧ k = if from_ < 0 ∨ 4096 < from_ ∨ n < 0 then 0 else min n 4096
theorem new_mk (w : World) (f k : Int) (h : 0 ≤ f ∧ f ≤ 9223372036854775807 ∧ 0 ≤ k ∧ k ≤ 4096 ∧ (k = 0 ∨ f ≤ 4096)) :
    PoolAt ((w.alloc (.map #[] 0)).alloc (.cells #[.int .i64 f, .int .i64 k, .map (some w.heap.size)] 30)) (w.heap.size + 1) w.heap.size f k [] :=
  ⟨⟨[], _, by have := heap_alloc_new (w.alloc (.map #[] 0)) (.cells #[.int .i64 f, .int .i64 k, .map (some w.heap.size)] 30); simpa using this⟩, (SetAt.new w).alloc _, h, by simp⟩
set_option maxHeartbeats 1000000 in
theorem new_any (from_ n : Int) (w : World) (hf : -9223372036854775808 ≤ from_ ∧ from_ ≤ 9223372036854775807) :
    Calls Try.prog 6 #[.int .i64 from_, .int .i64 n] w (NewSays from_ n w) := by
  have hmm := @run_makeMap Try.prog
  obtain ⟨hf1, hf2⟩ := hf
  go_enter Try.func6, Try.ntmps6
  go_wp2
  all_goals
    go_ret
    refine ⟨_, _, _, _, rfl, new_mk w _ _ ?_, ((Below.refl _ _).alloc (Nat.le_refl _) _).alloc (by simp) _, by simp, by simp, ?_, ?_⟩
    · omega
    · omega
    · split <;> omega
end Go.Proofs.Ytcglbbabfkbcbac
