/-
  PoolPlays: what is plain about it.
-/
import Derived.Test.YtcglbbabfkbcbacBookCut
import Derived.Test.YtcglbbabfkbcbacBookApartInts
import Derived.Test.YtcglbbabfkbcbacBookIntsA
import Derived.Test.YtcglbbabfkbcbacPoolPlain
import Derived.Test.YtcglbbabfkbcbacPoolUsed
import Derived.Test.YtcglbbabfkbcbacPoolCopy
import Derived.Test.YtcglbbabfkbcbacOps18
namespace Go.Proofs.Ytcglbbabfkbcbac
open Go.RowKit Go.Maps

/-- The marks: at place t whether f + t is in S. -/
def umarks (f : Int) (n : Nat) (S : List Int) : Array Value := ((List.range n).map fun (t : Nat) => Value.bool (decide (f + (t : Int) ∈ S))).toArray
theorem umarks_size (f : Int) (n : Nat) (S : List Int) : (umarks f n S).size = n := by simp [umarks]
theorem umarks_get (f : Int) (n : Nat) (S : List Int) (t : Nat) (h : t < n) : (umarks f n S)[t]? = some (.bool (decide (f + (t : Int) ∈ S))) := by
  simp [umarks, h]
theorem umarks_set (f : Int) (n : Nat) (S S' : List Int) (z : Int) (b : Bool) (h1 : f ≤ z) (hb : decide (z ∈ S') = b) (hne : ∀ x, x ≠ z → (x ∈ S' ↔ x ∈ S)) : (umarks f n S).setIfInBounds (z - f).toNat (.bool b) = umarks f n S' := by
  apply Array.ext_getElem?
  intro t
  rw [Array.getElem?_setIfInBounds]
  by_cases e : (z - f).toNat = t
  · subst e
    by_cases hn : (z - f).toNat < n
    · rw [if_pos rfl, if_pos (by rw [umarks_size]; exact hn), umarks_get _ _ _ _ hn, show f + (((z - f).toNat : Nat) : Int) = z by omega, hb]
    · rw [if_pos rfl, if_neg (by rw [umarks_size]; exact hn), Array.getElem?_eq_none (by rw [umarks_size]; omega)]
  · rw [if_neg e]
    by_cases hn : t < n
    · rw [umarks_get _ _ _ _ hn, umarks_get _ _ _ _ hn]
      have := hne (f + (t : Int)) (by omega)
      simp [this]
    · rw [Array.getElem?_eq_none (by rw [umarks_size]; omega), Array.getElem?_eq_none (by rw [umarks_size]; omega)]
theorem umarks_put (f : Int) (n : Nat) (S : List Int) (z : Int) (h1 : f ≤ z) : (umarks f n S).setIfInBounds (z - f).toNat (.bool true) = umarks f n (ins z S) :=
  umarks_set f n S _ z true h1 (by simp [mem_ins]) fun x hx => by rw [mem_ins]; simp [hx]
theorem umarks_del (f : Int) (n : Nat) (S : List Int) (z : Int) (h1 : f ≤ z) : (umarks f n S).setIfInBounds (z - f).toNat (.bool false) = umarks f n (S.filter fun x => decide (x ≠ z)) :=
  umarks_set f n S _ z false h1 (by simp) fun x hx => by simp [hx]
theorem umarks_nil (f : Int) (n : Nat) : umarks f n [] = Array.replicate n (.bool false) := by
  apply Array.ext_getElem?
  intro t
  by_cases hn : t < n
  · rw [umarks_get _ _ _ _ hn]; simp [hn]
  · rw [Array.getElem?_eq_none (by rw [umarks_size]; omega), Array.getElem?_eq_none (by simp; omega)]
theorem info_bool : (Try.prog.info? 4).map (fun i => (i.zero, i.size, i.bytes)) = some (some (.bool false), 1, 1) := by kernel_rfl
theorem make_umarks (f : Int) (nn : Nat) (h : nn ≤ 60) (W : World) : (Instr.makeSlice 31 (.int .i64 (nn : Int)) (.int .i64 (nn : Int))).run Try.prog W = .ok (.slice (some ⟨W.heap.size, 0, none⟩) nn nn) (W.alloc (.cells (umarks f nn []) 4)) := by
  obtain ⟨i0, hi, hz0, hz1, hz2⟩ := info_parts info_bool
  rw [run_make W 31 4 i0 (.bool false) Try.underlying31 hi hz0 .i64 .i64 nn nn (by omega) (by omega) (by rw [hz2]; omega) (by omega)]
  have e : madeCells (Value.bool false).cells ((nn : Int).toNat * i0.size) = umarks f nn [] := by
    rw [umarks_nil, hz1]
    apply Array.ext'
    rw [show (Value.bool false).cells = #[.bool false] from rfl, toList_madeCells_one]
    simp
  rw [e]; rfl
/-- How many of the first t places are free. -/
def freeTo (f : Int) (S : List Int) : Nat → Nat
  | 0 => 0
  | t + 1 => freeTo f S t + if f + (t : Int) ∈ S then 0 else 1
/-- The used among the first t places, rising. -/
def usedTo (f : Int) (S : List Int) : Nat → List Int
  | 0 => []
  | t + 1 => usedTo f S t ++ if f + (t : Int) ∈ S then [f + (t : Int)] else []
theorem usedTo_len (f : Int) (S : List Int) : ∀ t, (usedTo f S t).length + freeTo f S t = t
  | 0 => rfl
  | t + 1 => by
    have := usedTo_len f S t
    simp only [usedTo, freeTo, List.length_append]
    split <;> simp <;> omega
theorem mem_usedTo {f x : Int} {S : List Int} : ∀ {t : Nat}, x ∈ usedTo f S t ↔ f ≤ x ∧ x < f + t ∧ x ∈ S
  | 0 => by simp [usedTo]; omega
  | t + 1 => by
    simp only [usedTo, List.mem_append]
    rw [mem_usedTo (t := t)]
    constructor
    · rintro (⟨a, b, c⟩ | h)
      · exact ⟨a, by omega, c⟩
      · split at h
        · simp at h; subst h; exact ⟨by omega, by omega, by assumption⟩
        · simp at h
    · rintro ⟨a, b, c⟩
      by_cases e : x < f + (t : Int)
      · exact .inl ⟨a, e, c⟩
      · have : x = f + (t : Int) := by omega
        subst this
        right; rw [if_pos c]; simp
theorem rising_usedTo (f : Int) (S : List Int) : ∀ t, Rising (usedTo f S t)
  | 0 => List.Pairwise.nil
  | t + 1 => by
    unfold Rising
    simp only [usedTo]
    rw [List.pairwise_append]
    refine ⟨rising_usedTo f S t, ?_, fun a ha b hb => ?_⟩
    · split <;> simp
    · split at hb
      · simp at hb; have := (mem_usedTo.1 ha); omega
      · simp at hb
theorem usedTo_all {f : Int} {S : List Int} {n : Nat} (hr : Rising S) (hin : ∀ z ∈ S, f ≤ z ∧ z < f + n) : usedTo f S n = S :=
  rising_ext (rising_usedTo f S n) hr fun x => by
    rw [mem_usedTo]
    exact ⟨fun h => h.2.2, fun h => ⟨(hin x h).1, (hin x h).2, h⟩⟩
theorem freeTo_all {f : Int} {S : List Int} {n : Nat} (hr : Rising S) (hin : ∀ z ∈ S, f ≤ z ∧ z < f + n) : ((freeTo f S n : Nat) : Int) = n - S.length := by
  have := usedTo_len f S n
  rw [usedTo_all hr hin] at this
  omega
theorem freeTo_le (f : Int) (S : List Int) (t : Nat) : freeTo f S t ≤ t := by have := usedTo_len f S t; omega
theorem bkInts_nil (w : World) (B : Nat) : BkInts w B noFs [] := ⟨⟨.slice none 0 0, [], .slice none 0 0, [], rfl, rfl, World.ownsRow_nil _ _ _ _, World.ownsRow_nil _ _ _ _, .inl rfl, Kept.nil _ _, Kept.nil _ _⟩, by simp⟩
theorem BkInts.cut {w w' : World} {g B : Nat} {fs : Array Value} {ls : List (List Int)} (h : BkInts w B fs ls) (hg : w.grownBy w' (some g)) (hB : g < B) : BkInts (cutAt w' w.heap.size) B fs ls := by
  obtain ⟨vX, vs, vW, ws, e1, e2, r1, r2, hap, k1, k2⟩ := h.ex
  exact ⟨⟨vX, vs, vW, ws, e1, e2, cut_own hg r1 (Nat.le_refl _) hB, cut_own hg r2 (Nat.le_refl _) hB, hap, cut_kept k1 hg hB, cut_kept k2 hg hB⟩, h.ok⟩
theorem BkInts.grown {w w' : World} {g B : Nat} {fs : Array Value} {ls : List (List Int)} (h : BkInts w B fs ls) (hg : w.grownBy w' (some g)) (hB : g < B) : BkInts w' B fs ls := by
  have h1 := h.cut hg hB
  exact h1.below (cutAt_below hg.size)
end Go.Proofs.Ytcglbbabfkbcbac
