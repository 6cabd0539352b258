/-
  The texts in order, as a slice of texts.
-/
import Derived.Test.YtdlmipoeeiaapaaOrderLaws
import Derived.Test.YtdlmipoeeiaapaaSameTexts
namespace Go.Proofs.Ytdlmipoeeiaapaa
open Go.RowKit Go.Sort

/-- The texts in order, as texts. -/
def ordB (ss : List ByteArray) : List ByteArray := (orderS ss).map fun l => ⟨l.toArray⟩
theorem txt_ordB (ss : List ByteArray) : txt (ordB ss) = orderS ss := by
  unfold txt ordB
  rw [List.map_map]
  conv => rhs; rw [← List.map_id (orderS ss)]
  apply List.map_congr_left
  intro x _
  simp
theorem map_ordB (ss : List ByteArray) : (ordB ss).map Value.string = (orderS ss).map encStr := by unfold ordB; rw [List.map_map]; rfl
theorem size_ordB {ss : List ByteArray} (h : ∀ s ∈ ss, s.size ≤ maxLen) : ∀ s ∈ ordB ss, s.size ≤ maxLen := by
  intro s hs
  have h1 : s.toList ∈ txt (ordB ss) := List.mem_map.2 ⟨s, hs, rfl⟩
  rw [txt_ordB, (order_both ss).2] at h1
  obtain ⟨x, hx, e⟩ := List.mem_map.1 h1
  have := h x hx
  rw [← len_toList, ← e, len_toList]; exact this
theorem len_ordB (ss : List ByteArray) : (ordB ss).length = (orderS ss).length := by simp [ordB]
theorem ord_strs {w : World} {base : Nat} {v : Value} {ss : List ByteArray} (h : w.ownsRow base 9 1 v (orderS ss).length ((orderS ss).map encStr)) (hs : ∀ s ∈ ss, s.size ≤ maxLen) (hl : ss.length ≤ maxLen) :
    ∃ A c, v = .slice A (ordB ss).length c ∧ Strs w A (ordB ss).length (ordB ss) := by
  have hle := order_len ss
  rcases h.2 with ⟨rfl, he⟩ | ⟨g, cap, cur, rfl, _, hg, _, _, _, _⟩
  · have h0 : (ordB ss).length = 0 := by rw [len_ordB]; have := h.1; simp_all
    refine ⟨none, 0, by rw [h0], ⟨?_, rfl, by omega, size_ordB hs⟩⟩
    rw [List.eq_nil_of_length_eq_zero h0]; exact Sl.nil _ _
  · refine ⟨some ⟨g, 0, none⟩, cap, by rw [len_ordB], ⟨⟨fun _ => ⟨g, 0, rfl, lt_of_block hg, fun j u hu => ?_⟩⟩, rfl, by rw [len_ordB]; omega, size_ordB hs⟩⟩
    rw [map_ordB] at hu
    have hj : j < (orderS ss).length := by have := (List.getElem?_eq_some_iff.1 hu).1; simpa using this
    rw [Nat.zero_add, h.cellAt j (by omega)]
    exact hu
/-- A row of texts of the call's own, as a slice. -/
theorem own_strs {w : World} {B : Nat} {v : Value} {ss : List ByteArray} (h : w.ownsRow B 9 1 v ss.length (ss.map Value.string)) (hs : ∀ s ∈ ss, s.size ≤ maxLen) (hl : ss.length ≤ maxLen) :
    ∃ A c, v = .slice A ss.length c ∧ Strs w A ss.length ss := by
  rcases h.2 with ⟨rfl, he⟩ | ⟨g, cap, cur, rfl, _, hg, _, _, _, _⟩
  · refine ⟨none, 0, by rw [he], ⟨?_, rfl, hl, hs⟩⟩
    rw [List.eq_nil_of_length_eq_zero he]; exact Sl.nil _ _
  · refine ⟨some ⟨g, 0, none⟩, cap, rfl, ⟨⟨fun _ => ⟨g, 0, rfl, lt_of_block hg, fun j u hu => ?_⟩⟩, rfl, hl, hs⟩⟩
    have hj : j < ss.length := by have := (List.getElem?_eq_some_iff.1 hu).1; simpa using this
    rw [Nat.zero_add, h.cellAt j (by omega)]
    exact hu
theorem info_str : (Try.prog.info? 9).map (fun i => (i.zero, i.size, i.bytes)) = some (some (.string ByteArray.empty), 1, 16) := by kernel_rfl
theorem strs_oneCell (s : ByteArray) : ∀ u ∈ [Value.string s], u.oneCell' = true := by
  intro u hu
  rw [List.mem_singleton.1 hu]; rfl
end Go.Proofs.Ytdlmipoeeiaapaa
