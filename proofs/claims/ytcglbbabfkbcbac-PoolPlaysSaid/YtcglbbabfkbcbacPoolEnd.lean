/-
  pool: a pool that has a map of its own, or the zero one: what all its calls do, in one word.
-/
import Derived.Test.YtcglbbabfkbcbacPoolZero2
import Derived.Test.YtcglbbabfkbcbacPoolIs
import Derived.Test.YtcglbbabfkbcbacPoolPlaysB
namespace Go.Proofs.Ytcglbbabfkbcbac
open Go.RowKit Go.Maps

/-- The pool at block g, with its map (none: the zero pool). -/
def PoolE (w : World) (g : Nat) (om : Option Nat) (f n : Int) (us : List Int) : Prop :=
  match om with
  | some m => PoolAt w g m f n us
  | none => ZeroP w g ∧ f = 0 ∧ n = 0 ∧ us = []
section
variable {w w' : World} {g : Nat} {om : Option Nat} {f n : Int} {us : List Int}
theorem PoolE.lt (h : PoolE w g om f n us) : g < w.heap.size := by cases om with | none => exact h.1.lt | some m => exact PoolAt.lt h
theorem PoolE.below (h : PoolE w g om f n us) (hb : Below w.heap.size w w') : PoolE w' g om f n us := by
  cases om with
  | none => exact ⟨h.1.below hb, h.2⟩
  | some m => exact PoolAt.below h hb
theorem PoolE.far {row : Option Nat} (h : PoolE w g om f n us) (hg : w.grownBy w' row) (h1 : some g ≠ row) (h2 : om = none ∨ om ≠ row) : PoolE w' g om f n us := by
  cases om with
  | none => exact ⟨h.1.grown hg h1, h.2⟩
  | some m => exact PoolAt.far h hg h1 (by rcases h2 with h2 | h2; cases h2; exact h2)
theorem PoolE.rng (h : PoolE w g om f n us) : 0 ≤ f ∧ f ≤ 9223372036854775807 ∧ 0 ≤ n ∧ n ≤ 4096 ∧ (n = 0 ∨ f ≤ 4096) := by
  cases om with
  | none => obtain ⟨_, rfl, rfl, rfl⟩ := h; simp
  | some m => exact PoolAt.rng h
theorem PoolE.rising (h : PoolE w g om f n us) : Rising us := by
  cases om with
  | none => obtain ⟨_, rfl, rfl, rfl⟩ := h; exact List.Pairwise.nil
  | some m => exact (PoolAt.set h).rising
theorem PoolE.ins (h : PoolE w g om f n us) : ∀ z ∈ us, f ≤ z ∧ z < f + n := by
  cases om with
  | none => obtain ⟨_, rfl, rfl, rfl⟩ := h; simp
  | some m => exact PoolAt.ins h
theorem PoolE.mapless (h : PoolE w g om f n us) : ∀ m, om = some m → ∀ cs T fr, w.heap[m]? ≠ some (.cells cs T fr) := by
  rintro m rfl cs T fr e
  obtain ⟨es, c, h1, _⟩ := (PoolAt.set h).own
  rw [h1] at e; cases e
theorem PoolE.has (h : PoolE w g om f n us) (z : Int) (hz : (Lit.int .i64 z).wf = true) :
    Calls Try.prog 17 #[.pointer (some ⟨g, 0, none⟩), .int .i64 z] w fun e w' => e = .returned (.bool (decide (z ∈ us))) ∧ Below w.heap.size w w' := by
  cases om with
  | none => obtain ⟨h0, rfl, rfl, rfl⟩ := h; exact (has_zero g z w h0 hz).mono fun e w' ⟨a, b⟩ => ⟨a.trans (ret_bool (by simp)), b⟩
  | some m => exact has_any g m f n us z w h hz
theorem PoolE.free (h : PoolE w g om f n us) :
    Calls Try.prog 16 #[.pointer (some ⟨g, 0, none⟩)] w fun e w' => e = .returned (.int .i64 (n - us.length)) ∧ Below w.heap.size w w' := by
  cases om with
  | none => obtain ⟨h0, rfl, rfl, rfl⟩ := h; exact (free_zero g w h0).mono fun e w' ⟨a, b⟩ => ⟨a.trans (ret_int (by simp)), b⟩
  | some m => exact free_any g m f n us w h
theorem PoolE.size (h : PoolE w g om f n us) :
    Calls Try.prog 7 #[.pointer (some ⟨g, 0, none⟩)] w fun e w' => e = .returned (.int .i64 n) ∧ w = w' := by
  cases om with
  | none => obtain ⟨h0, rfl, rfl, rfl⟩ := h; exact size_zero g w h0
  | some m => exact size_any g m f n us w h
theorem PoolE.give (h : PoolE w g om f n us) {A : Option Addr} {k : Nat} {zs : List Int} (hz : Ints w .i64 A k zs) (c : Nat) :
    Calls Try.prog 11 #[.pointer (some ⟨g, 0, none⟩), .slice A k c] w fun e w' => e = .returned (.int .i64 (giveAll us zs).2) ∧ PoolE w' g om f n (giveAll us zs).1 ∧ w.grownBy w' om := by
  cases om with
  | none =>
    obtain ⟨h0, rfl, rfl, rfl⟩ := h
    refine (give_zero g A k c zs w h0 hz).mono fun e w' ⟨a, b⟩ => ?_
    rw [give_nothing]
    exact ⟨a, ⟨h0.below b, rfl, rfl, rfl⟩, grown_of_below b _⟩
  | some m => exact give_any g m f n us A k c zs w h hz
theorem PoolE.mark (h : PoolE w g om f n us) {A : Option Addr} {k : Nat} {zs : List Int} (hz : Ints w .i64 A k zs) (c : Nat) :
    Calls Try.prog 12 #[.pointer (some ⟨g, 0, none⟩), .slice A k c] w fun e w' => e = .returned (.int .i64 (markErr f n us zs)) ∧ PoolE w' g om f n (markTo f n us zs) ∧ w.grownBy w' om := by
  cases om with
  | none =>
    obtain ⟨h0, rfl, rfl, rfl⟩ := h
    refine (mark_zero g A k c zs w h0 hz).mono fun e w' ⟨a, a2, b⟩ => ?_
    rw [a2]
    exact ⟨a, ⟨h0.below b, rfl, rfl, rfl⟩, grown_of_below b _⟩
  | some m => exact mark_any g m f n us A k c zs w h hz
theorem PoolE.take (h : PoolE w g om f n us) (k : Int) (hk : -9223372036854775808 ≤ k ∧ k ≤ 9223372036854775807) :
    Calls Try.prog 9 #[.pointer (some ⟨g, 0, none⟩), .int .i64 k] w fun e w' => ∃ v, e = .returned (.tuple #[v, .int .i64 (takeOut f n us k).2]) ∧ w'.ownsRow w.heap.size 3 1 v (takeOut f n us k).1.length ((takeOut f n us k).1.map (Value.int .i64)) ∧
      PoolE w' g om f n (insAll us (takeOut f n us k).1) ∧ w.grownBy w' om := by
  cases om with
  | none =>
    obtain ⟨h0, rfl, rfl, rfl⟩ := h
    refine (take_zero g k w h0).mono fun e w' ⟨a, a2, b⟩ => ⟨_, a, ?_⟩
    rw [a2]
    exact ⟨World.ownsRow_nil _ _ _ _, ⟨h0.below b, rfl, rfl, rfl⟩, grown_of_below b _⟩
  | some m => exact take_any g m f n us k w h hk
theorem PoolE.used (h : PoolE w g om f n us) :
    Calls Try.prog 14 #[.pointer (some ⟨g, 0, none⟩)] w fun e w' => ∃ v, e = .returned v ∧ w'.ownsRow w.heap.size 3 1 v us.length (us.map (Value.int .i64)) ∧ Below w.heap.size w w' := by
  cases om with
  | none => obtain ⟨h0, rfl, rfl, rfl⟩ := h; exact used_zero g w h0
  | some m => exact used_any g m f n us w h
theorem PoolE.copy (h : PoolE w g om f n us) :
    Calls Try.prog 13 #[.pointer (some ⟨g, 0, none⟩)] w fun e w' => ∃ g2 om2, e = .returned (.pointer (some ⟨g2, 0, none⟩)) ∧ PoolE w' g2 om2 f n us ∧ PoolTy w' g2 ∧ Below w.heap.size w w' ∧ w.heap.size ≤ g2 ∧ ∀ m2, om2 = some m2 → w.heap.size ≤ m2 := by
  cases om with
  | none =>
    obtain ⟨h0, rfl, rfl, rfl⟩ := h
    exact (copy_zero h0).mono fun e w' ⟨g2, a, b, t, c, d⟩ => ⟨g2, none, a, ⟨b, rfl, rfl, rfl⟩, t, c, d, by simp⟩
  | some m => exact (copyP_any h).mono fun e w' ⟨g2, m2, a, b, t, c, d, e2⟩ => ⟨g2, some m2, a, b, t, c, d, fun m' hm => by injection hm with hm; omega⟩
end
end Go.Proofs.Ytcglbbabfkbcbac
