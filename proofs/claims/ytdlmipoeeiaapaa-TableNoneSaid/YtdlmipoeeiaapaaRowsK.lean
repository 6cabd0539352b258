/-
  Rows of elements of k cells: flat, held, sorted.
-/
import Derived.Test.YtdlmipoeeiaapaaMem
import Derived.Shelf.SlSortCmp.NoneTotal
import Derived.Sort.OwnSorted
namespace Go.Proofs.Ytdlmipoeeiaapaa
open Go.RowKit Go.Sort Go.Shelf

section
variable {α : Type} [Inhabited α] {cs : α → List Value} {k : Nat}
omit [Inhabited α] in
theorem rowK_len (hk : ∀ x, (cs x).length = k) : ∀ l : List α, (l.flatMap cs).length = l.length * k
  | [] => by simp
  | a :: r => by rw [List.flatMap_cons, List.length_append, hk, rowK_len hk r, List.length_cons, Nat.add_mul]; omega
omit [Inhabited α] in
theorem rowK_get (hk : ∀ x, (cs x).length = k) (l : List α) (j : Nat) (hj : j < l.length) (q : Nat) (hq : q < k) : (l.flatMap cs)[j * k + q]? = (cs l[j])[q]? := by
  induction l generalizing j with
  | nil => simp at hj
  | cons a r ih =>
    rw [List.flatMap_cons]
    cases j with
    | zero =>
      rw [List.getElem?_append_left (by rw [hk]; omega)]; simp
    | succ j =>
      have e : (j + 1) * k + q = k + (j * k + q) := by rw [Nat.add_mul]; omega
      rw [List.getElem?_append_right (by rw [hk]; omega), hk, e, Nat.add_sub_cancel_left, ih j (by simp at hj; omega)]; rfl
theorem flatK_list (hk : ∀ x, (cs x).length = k) (l : List α) : (flatK cs k l.toArray).toList = l.flatMap cs := by
  apply List.ext_getElem?
  intro t
  by_cases ht : t < l.length * k
  · have k0 : 0 < k := by rcases Nat.eq_zero_or_pos k with h | h
                          · subst h; simp at ht
                          · exact h
    have hj : t / k < l.length := by rw [Nat.div_lt_iff_lt_mul k0]; exact ht
    have hq : t % k < k := Nat.mod_lt _ k0
    have e := rowK_get hk l (t / k) hj (t % k) hq
    rw [Nat.div_add_mod' t k] at e
    rw [e, Array.getElem?_toList]
    have h1 := get_flatK cs k l.toArray t (by simpa using ht)
    have h2 : t < (flatK cs k l.toArray).size := by simpa using ht
    rw [Array.getElem?_eq_getElem h2, ← getElem!_pos _ t h2, h1]
    have h3 : l.toArray[t / k]! = l[t / k] := by simp [hj]
    rw [h3, getElem!_pos _ _ (by rw [hk]; exact hq), List.getElem?_eq_getElem (by rw [hk]; exact hq)]
  · have h2 : (l.flatMap cs).length ≤ t := by rw [rowK_len hk]; omega
    rw [List.getElem?_eq_none (by simpa using ht), List.getElem?_eq_none h2]
theorem putCells_take (F cur : Array Value) (h : F.size ≤ cur.size) : (putCells id 0 F cur).toList.take F.size = F.toList := by
  apply List.ext_getElem?
  intro j
  by_cases hj : j < F.size
  · rw [List.getElem?_take_of_lt hj, Array.getElem?_toList]
    simp [putCells, hj, show j < cur.size by omega]
  · rw [List.getElem?_take_eq_none (by omega), List.getElem?_eq_none (by simp; omega)]
theorem heap_sortedK {w : World} {g n : Nat} {os : Array Obj} {cur : Array Value} {e : TypeId} {fr : Nat × Nat} (d : Array α) (hb : w.heap[g]? = some (.cells cur e fr)) :
    (sortWorldK cs k w g 0 n d os).heap[g]? = some (.cells (putCells id 0 (flatK cs k d) cur) e fr) := by
  have hg : g < w.heap.size := (Array.getElem?_eq_some_iff.1 hb).1
  unfold sortWorldK putRowK
  rw [heap_grow_old _ _ (by simpa using hg)]
  simp [putRow, mapBlock, Sort.ahead, Array.getElem?_modify, hb, onCells]
theorem grownBy_sortedK {w : World} {g n : Nat} {os : Array Obj} (d : Array α) : w.grownBy (sortWorldK cs k w g 0 n d os) (some g) := by
  unfold sortWorldK putRowK
  refine ⟨rfl, rfl, rfl, by simp, fun j hj hne => ?_⟩
  rw [heap_grow_old _ _ (by simpa using hj)]
  have : g ≠ j := fun e => hne (by rw [e])
  simp [putRow, mapBlock, Sort.ahead, Array.getElem?_modify, this]
theorem holdsK_of_block (hk : ∀ x, (cs x).length = k) {w : World} {g : Nat} {cur : Array Value} {e : TypeId} {l : List α} (hb : w.heap[g]? = some (.cells cur e (0, 0))) (ht : cur.toList.take (l.length * k) = l.flatMap cs) : HoldsK cs k w g 0 l.toArray := by
  intro j hj
  have hj' : j < l.length * k := by simpa using hj
  refine ⟨?_, by simp [World.frozen?, hb]⟩
  have h1 : (cur.toList.take (l.length * k))[j]? = (flatK cs k l.toArray).toList[j]? := by rw [ht, flatK_list hk]
  rw [List.getElem?_take_of_lt hj', Array.getElem?_toList, Array.getElem?_toList] at h1
  simp only [World.cell?, hb, Nat.zero_add]
  simp only [Option.isSome_none, Bool.false_eq_true, if_false]
  rw [h1, Array.getElem?_eq_getElem hj, ← getElem!_pos _ j hj]
  rfl
/-- Behind the sort the same slice owns the sorted list. -/
theorem ownsRow_sortedK (hk : ∀ x, (cs x).length = k) {w : World} {base g cap n m : Nat} {e : TypeId} {os : Array Obj} {cur : Array Value} {l : List α} (hl : l.length = m) (hbase : base ≤ g) (hb : w.heap[g]? = some (.cells cur e (0, 0)))
    (h1 : m ≤ cap) (h2 : cap ≤ maxLen) (h3 : cur.size = cap * k) :
    (sortWorldK cs k w g 0 n l.toArray os).ownsRow base e k (.slice (some ⟨g, 0, none⟩) m cap) m (l.flatMap cs) :=
  ⟨by rw [rowK_len hk, hl], .inr ⟨g, cap, _, rfl, hbase, heap_sortedK _ hb, h1, h2, by simp [putCells, h3], by
    have := putCells_take (flatK cs k l.toArray) cur (by rw [size_flatK, h3]; simp; rw [hl]; exact Nat.mul_le_mul_right _ h1)
    rw [size_flatK] at this
    simp only [List.size_toArray, hl] at this
    rw [this, flatK_list hk]⟩⟩
end
end Go.Proofs.Ytdlmipoeeiaapaa
