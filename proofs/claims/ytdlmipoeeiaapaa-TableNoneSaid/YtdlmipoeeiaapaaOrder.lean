/-
  The order of texts and of records: plain laws.
-/
import Derived.Test.YtdlmipoeeiaapaaPlain5
import Derived.Sort.Walk0
namespace Go.Proofs.Ytdlmipoeeiaapaa
open Go.RowKit

theorem bl_lt (a b : List UInt8) : Op.bytesLess a b = decide (a < b) := Go.Proofs.bytesLess_eq a b
theorem bl_irrefl (a : List UInt8) : Op.bytesLess a a = false := by rw [bl_lt]; simp
theorem bl_trans {a b c : List UInt8} (h : Op.bytesLess a b = true) (k : Op.bytesLess b c = true) : Op.bytesLess a c = true := by
  rw [bl_lt, decide_eq_true_iff] at *; exact List.lt_trans h k
theorem bl_asymm {a b : List UInt8} (h : Op.bytesLess a b = true) : Op.bytesLess b a = false := by
  cases k : Op.bytesLess b a
  · rfl
  · have := bl_trans h k; rw [bl_irrefl] at this; cases this
theorem bl_total {a b : List UInt8} (h : Op.bytesLess a b = false) (k : Op.bytesLess b a = false) : a = b := by
  rw [bl_lt, decide_eq_false_iff_not] at *; exact List.le_antisymm (List.not_lt.1 k) (List.not_lt.1 h)
/-- A record stands ahead of another one. -/
def ahead (a : List UInt8) (x : Int) (b : List UInt8) (y : Int) : Prop := Op.bytesLess a b = true ∨ (a = b ∧ x < y)
theorem cmpR_neg (a : List UInt8) (x : Int) (b : List UInt8) (y : Int) : cmpR a x b y < 0 ↔ ahead a x b y := by
  unfold cmpR cmpS cmpI ahead
  cases h : Op.bytesLess a b
  · by_cases e : a = b
    · subst e
      simp
      by_cases h2 : x < y
      · simp [h2]
      · by_cases h3 : y < x <;> simp [h2, h3]
    · simp [e]
  · simp
def aheadB (a : List UInt8) (x : Int) (b : List UInt8) (y : Int) : Bool := decide (cmpR a x b y < 0)
theorem aheadB_iff (a : List UInt8) (x : Int) (b : List UInt8) (y : Int) : aheadB a x b y = true ↔ ahead a x b y := by
  unfold aheadB; rw [decide_eq_true_iff]; exact cmpR_neg a x b y
theorem ahead_irrefl (a : List UInt8) (x : Int) : ¬ ahead a x a x := by
  unfold ahead; rw [bl_irrefl]; simp
theorem ahead_trans {a b c : List UInt8} {x y z : Int} (h : ahead a x b y) (k : ahead b y c z) : ahead a x c z := by
  rcases h with h | ⟨rfl, h⟩
  · rcases k with k | ⟨rfl, k⟩
    · exact .inl (bl_trans h k)
    · exact .inl h
  · rcases k with k | ⟨rfl, k⟩
    · exact .inl k
    · exact .inr ⟨rfl, by omega⟩
theorem ahead_total {a b : List UInt8} {x y : Int} (h : ¬ ahead a x b y) (k : ¬ ahead b y a x) : a = b ∧ x = y := by
  unfold ahead at h k
  have e : a = b := by
    apply bl_total
    · cases hh : Op.bytesLess a b
      · rfl
      · exact absurd (.inl hh) h
    · cases hh : Op.bytesLess b a
      · rfl
      · exact absurd (.inl hh) k
  subst e
  refine ⟨rfl, ?_⟩
  have h1 : ¬ x < y := fun hh => h (.inr ⟨rfl, hh⟩)
  have h2 : ¬ y < x := fun hh => k (.inr ⟨rfl, hh⟩)
  omega
theorem aheadB_irrefl (a : List UInt8) (x : Int) : aheadB a x a x = false := by
  cases h : aheadB a x a x
  · rfl
  · exact absurd ((aheadB_iff _ _ _ _).1 h) (ahead_irrefl a x)
theorem aheadB_trans {a b c : List UInt8} {x y z : Int} (h : aheadB a x b y = true) (k : aheadB b y c z = true) : aheadB a x c z = true :=
  (aheadB_iff _ _ _ _).2 (ahead_trans ((aheadB_iff _ _ _ _).1 h) ((aheadB_iff _ _ _ _).1 k))
theorem aheadB_asymm {a b : List UInt8} {x y : Int} (h : aheadB a x b y = true) : aheadB b y a x = false := by
  cases k : aheadB b y a x
  · rfl
  · have := aheadB_trans h k; rw [aheadB_irrefl] at this; cases this
theorem aheadB_total {a b : List UInt8} {x y : Int} (h : aheadB a x b y = false) (k : aheadB b y a x = false) : a = b ∧ x = y :=
  ahead_total (fun hh => by rw [(aheadB_iff _ _ _ _).2 hh] at h; cases h) (fun hh => by rw [(aheadB_iff _ _ _ _).2 hh] at k; cases k)
end Go.Proofs.Ytdlmipoeeiaapaa
