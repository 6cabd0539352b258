/-
  The package pool: what its calls do to the set of used blocks.
-/
import Derived.Test.YtjdbklhjikkehaaSets
import Derived.Test.YtjdbklhjikkehaaMem
import Derived.WalkSpells
import Derived.WalkLawsBesides
import Derived.Lib.Hide
import Derived.Outline
import Derived.Deep.QuietTactic
import Derived.BigQuiet
import Derived.Maps.OwnOps
import Derived.IntWalk
namespace Go.Proofs.Ytjdbklhjikkehaa
open Go.RowKit Go.Maps

theorem ret_bool {a b : Bool} (h : a = b) : Ending.returned (.bool a) = .returned (.bool b) := by rw [h]
theorem ret_int {k : IntKind} {a b : Int} (h : a = b) : Ending.returned (.int k a) = .returned (.int k b) := by rw [h]
theorem wf_i64 {z : Int} (h : -9223372036854775808 ≤ z ∧ z ≤ 9223372036854775807) : (Lit.int .i64 z).wf = true := by
  have : IntKind.i64.min = -9223372036854775808 ∧ IntKind.i64.max = 9223372036854775807 := by decide
  simp [Lit.wf, this.1, this.2, h.1, h.2]
theorem zero_unit (w : World) : (zeroValue 60).run Try.prog w = .ok (.agg #[]) w := by kernel_rfl

/-- The pool at block g: its first block, how many there are, and which are used. -/
structure PoolAt (w : World) (g m : Nat) (from_ n : Int) (us : List Int) : Prop where
  blk : w.heap[g]? = some (.cells #[.int .i64 from_, .int .i64 n, .map (some m)] 41 (0, 0))
  set : SetAt w m us
  rng : 0 ≤ from_ ∧ from_ ≤ 9223372036854775807 ∧ 0 ≤ n ∧ n ≤ 4096 ∧ (n = 0 ∨ from_ ≤ 4096)
  ins : ∀ z ∈ us, from_ ≤ z ∧ z < from_ + n
theorem PoolAt.lt {w : World} {g m : Nat} {f n : Int} {us : List Int} (h : PoolAt w g m f n us) : g < w.heap.size := lt_of_block h.blk
theorem PoolAt.ne {w : World} {g m : Nat} {f n : Int} {us : List Int} (h : PoolAt w g m f n us) : g ≠ m := by
  intro e
  obtain ⟨es, c, h1, _⟩ := h.set.own
  have := h.blk
  rw [e, h1] at this; cases this
theorem PoolAt.cells {w : World} {g m : Nat} {f n : Int} {us : List Int} (h : PoolAt w g m f n us) : w.cell? ⟨g, 0, none⟩ = some (.int .i64 f) ∧ w.cell? ⟨g, 1, none⟩ = some (.int .i64 n) ∧ w.cell? ⟨g, 2, none⟩ = some (.map (some m)) :=
  ⟨cell_of_row w g 0 _ _ _ h.blk, cell_of_row w g 1 _ _ _ h.blk, cell_of_row w g 2 _ _ _ h.blk⟩
theorem PoolAt.below {w w' : World} {g m : Nat} {f n : Int} {us : List Int} (h : PoolAt w g m f n us) (hb : Below w.heap.size w w') : PoolAt w' g m f n us :=
  ⟨(hb.block g h.lt).trans h.blk, h.set.below hb h.set.lt, h.rng, h.ins⟩
theorem PoolAt.far {w w' : World} {g m : Nat} {f n : Int} {us : List Int} {row : Option Nat} (h : PoolAt w g m f n us) (hg : w.grownBy w' row) (h1 : some g ≠ row) (h2 : some m ≠ row) : PoolAt w' g m f n us :=
  ⟨(hg.block g h.lt h1).trans h.blk, h.set.grown hg h2, h.rng, h.ins⟩
theorem rising_len : ∀ {l : List Int} {a b : Int}, Rising l → a ≤ b → (∀ z ∈ l, a ≤ z ∧ z < b) → (l.length : Int) ≤ b - a
  | [], a, b, _, hab, _ => by simp; omega
  | y :: r, a, b, h, _, hi => by
    unfold Rising at h
    rw [List.pairwise_cons] at h
    have hy := hi y (by simp)
    have := rising_len (l := r) (a := y + 1) (b := b) h.2 (by omega) (fun z hz => ⟨by have := h.1 z hz; omega, (hi z (by simp [hz])).2⟩)
    simp only [List.length_cons]; omega
theorem PoolAt.size_le {w : World} {g m : Nat} {f n : Int} {us : List Int} (h : PoolAt w g m f n us) : (us.length : Int) ≤ n := by
  have := rising_len h.set.rising (a := f) (b := f + n) (by have := h.rng; omega) h.ins
  omega

set_option maxHeartbeats 1000000 in
theorem has_any (g m : Nat) (f n : Int) (us : List Int) (z : Int) (w : World) (h : PoolAt w g m f n us) (hz : (Lit.int .i64 z).wf = true) :
    Calls Try.prog 9 #[.pointer (some ⟨g, 0, none⟩), .int .i64 z] w fun e w' => e = .returned (.bool (decide (z ∈ us))) ∧ Below w.heap.size w w' := by
  obtain ⟨c0, c1, c2⟩ := h.cells
  have hown := h.set.own
  go_enter Try.func9, Try.ntmps9
  go_wp2_with (at_lookup; refine wpList_lookup_own_unit _ rfl _ _ 39 rfl 3 60 int_law Try.underlying39 (zero_unit _) m us.length (setD us) rfl hown _ _ rfl (keyOf_int_mk Try.underlying3 hz) ?_)
  go_ret
  exact ⟨ret_bool (has_setD us z), (Below.refl _ _).alloc (Nat.le_refl _) _⟩

set_option maxHeartbeats 1000000 in
theorem free_any (g m : Nat) (f n : Int) (us : List Int) (w : World) (h : PoolAt w g m f n us) :
    Calls Try.prog 10 #[.pointer (some ⟨g, 0, none⟩)] w fun e w' => e = .returned (.int .i64 (n - us.length)) ∧ Below w.heap.size w w' := by
  obtain ⟨c0, c1, c2⟩ := h.cells
  have hlen : ∀ q ty, (Builtin.len_ #[39] ty #[.map (some m)]).run Try.prog (w.drewN q) = .ok (.int .i64 us.length) (w.drewN q) := fun q ty => by
    have hd : (w.drewN q).ownsMap Try.prog 3 (unitElem (H := Unit)) m us.length (setD us) := h.set.own
    rw [hd.len Try.underlying39 ty, size_setD]
  have hs := h.size_le
  obtain ⟨_, _, h3, h4, _⟩ := h.rng
  go_enter Try.func10, Try.ntmps10
  go_wp2
  go_quiet (fail)
  go_wp2
  go_ret
  exact ⟨rfl, below_drewN (Below.refl _ _) _⟩
set_option maxHeartbeats 1000000 in
theorem size_any (g m : Nat) (f n : Int) (us : List Int) (w : World) (h : PoolAt w g m f n us) :
    Calls Try.prog 15 #[.pointer (some ⟨g, 0, none⟩)] w fun e w' => e = .returned (.int .i64 n) ∧ w = w' := by
  obtain ⟨c0, c1, c2⟩ := h.cells
  go_enter Try.func15, Try.ntmps15
  go_wp2
  go_ret
  exact ⟨rfl, rfl⟩
set_option maxHeartbeats 1000000 in
theorem is_any (g m : Nat) (f n : Int) (us : List Int) (z : Int) (w : World) (h : PoolAt w g m f n us) (hz : -9223372036854775808 ≤ z ∧ z ≤ 9223372036854775807) :
    Calls Try.prog 25 #[.pointer (some ⟨g, 0, none⟩), .int .i64 z] w fun e w' => e = .returned (.bool (decide (f ≤ z ∧ z < f + n))) ∧ Below w.heap.size w w' := by
  obtain ⟨c0, c1, c2⟩ := h.cells
  obtain ⟨h1, h2, h3, h4, h5⟩ := h.rng
  obtain ⟨hz1, hz2⟩ := hz
  clear h5
  by_cases a : f ≤ z
  · have hw : IntKind.i64.wrap (z - f) = z - f := IntWalk.i64_in (z - f) (by omega)
    by_cases b : z - f < n
    · have HF : Hid (decide (f ≤ z ∧ z < f + n) = true) := decide_eq_true (by omega)
      go_enter Try.func25, Try.ntmps25
      go_wp2
      go_quiet (fail)
      go_wp2
      go_ret
      exact ⟨ret_bool HF.out.symm, below_drewN (Below.refl _ _) _⟩
    · have hd : decide (z - f < n) = false := by simp; omega
      have HF : Hid (decide (f ≤ z ∧ z < f + n) = false) := decide_eq_false (by omega)
      go_enter Try.func25, Try.ntmps25
      go_wp2
      go_quiet (fail)
      go_wp2
      go_ret
      exact ⟨ret_bool HF.out.symm, below_drewN (Below.refl _ _) _⟩
  · have hd : decide (f ≤ z) = false := by simp; omega
    have HF : Hid (decide (f ≤ z ∧ z < f + n) = false) := decide_eq_false (by omega)
    go_enter Try.func25, Try.ntmps25
    go_wp2
    go_quiet (fail)
    go_wp2
    go_ret
    exact ⟨ret_bool HF.out.symm, below_drewN (Below.refl _ _) _⟩

def NewSays (from_ n : Int) (w : World) (e : Ending) (w' : World) : Prop :=
  ∃ g m f k, e = .returned (.pointer (some ⟨g, 0, none⟩)) ∧ PoolAt w' g m f k [] ∧ Below w.heap.size w w' ∧ w.heap.size ≤ g ∧ w.heap.size ≤ m ∧
    f = max from_ 0 ∧ k = if from_ < 0 ∨ 4096 < from_ ∨ n < 0 then 0 else min n 4096
theorem new_mk (w : World) (f k : Int) (h : 0 ≤ f ∧ f ≤ 9223372036854775807 ∧ 0 ≤ k ∧ k ≤ 4096 ∧ (k = 0 ∨ f ≤ 4096)) :
    PoolAt ((w.alloc (.map #[] 0)).alloc (.cells #[.int .i64 f, .int .i64 k, .map (some w.heap.size)] 41)) (w.heap.size + 1) w.heap.size f k [] :=
  ⟨by have := heap_alloc_new (w.alloc (.map #[] 0)) (.cells #[.int .i64 f, .int .i64 k, .map (some w.heap.size)] 41); simpa using this, (SetAt.new w).alloc _, h, by simp⟩
set_option maxHeartbeats 1000000 in
theorem new_any (from_ n : Int) (w : World) (hf : -9223372036854775808 ≤ from_ ∧ from_ ≤ 9223372036854775807) :
    Calls Try.prog 7 #[.int .i64 from_, .int .i64 n] w (NewSays from_ n w) := by
  have hmm := @run_makeMap Try.prog
  obtain ⟨hf1, hf2⟩ := hf
  go_enter Try.func7, Try.ntmps7
  go_wp2
  all_goals
    go_ret
    refine ⟨_, _, _, _, rfl, new_mk w _ _ ?_, ((Below.refl _ _).alloc (Nat.le_refl _) _).alloc (by simp) _, by simp, by simp, ?_, ?_⟩
    · omega
    · omega
    · split <;> omega
end Go.Proofs.Ytjdbklhjikkehaa
