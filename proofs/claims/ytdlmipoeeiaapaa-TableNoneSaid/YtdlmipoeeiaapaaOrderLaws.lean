/-
  Texts in order, each once: plain laws.
-/
import Derived.Test.YtdlmipoeeiaapaaOrderTexts
import Derived.Test.YtdlmipoeeiaapaaOrder
namespace Go.Proofs.Ytdlmipoeeiaapaa
open Go.RowKit

def RisingS (l : List (List UInt8)) : Prop := l.Pairwise fun a b => Op.bytesLess a b = true
theorem le_iff (a b : List UInt8) : decide (a ≤ b) = !Op.bytesLess b a := by
  rw [bl_lt, Bool.eq_iff_iff]; simp [List.not_lt]
theorem sortS_sorted (l : List (List UInt8)) : (sortS l).Pairwise fun a b => Op.bytesLess b a = false := by
  have h := List.pairwise_mergeSort (le := fun x y : List UInt8 => decide (x ≤ y)) (fun a b c h1 h2 => by
    rw [le_iff] at *
    cases hca : Op.bytesLess c a
    · rfl
    · exfalso
      simp at h1 h2
      cases hbc : Op.bytesLess b c
      · have e := bl_total hbc h2; subst e; rw [hca] at h1; cases h1
      · have := bl_trans hbc hca; rw [this] at h1; cases h1) (fun a b => by
    rw [le_iff, le_iff]
    cases hab : Op.bytesLess a b
    · simp
    · rw [bl_asymm hab]; rfl) l
  refine List.Pairwise.imp (fun {a b} hh => ?_) h
  rw [le_iff] at hh
  simpa using hh
theorem compact_inv (d : Array (List UInt8)) (hs : ∀ i j, i ≤ j → j < d.size → Op.bytesLess d[j]! d[i]! = false) : ∀ m, m ≤ d.size →
    RisingS (Lib.compactUpTo d m) ∧ (∀ x, x ∈ Lib.compactUpTo d m ↔ ∃ j, j < m ∧ d[j]! = x)
  | 0, _ => ⟨by simp [Lib.compactUpTo, RisingS], fun x => by simp [Lib.compactUpTo]⟩
  | m + 1, h => by
    obtain ⟨h1, h2⟩ := compact_inv d hs m (by omega)
    rw [Lib.compactUpTo_succ]
    by_cases hk : Lib.keeps d m = true
    · rw [if_pos hk]
      refine ⟨?_, fun x => ?_⟩
      · unfold RisingS at *
        rw [List.pairwise_append]
        refine ⟨h1, by simp, fun a ha b hb => ?_⟩
        simp at hb; subst hb
        obtain ⟨j, hj, rfl⟩ := (h2 a).1 ha
        have hlast : Op.bytesLess d[m]! d[m - 1]! = false := hs (m - 1) m (by omega) (by omega)
        have hne : d[m - 1]! ≠ d[m]! := by
          unfold Lib.keeps at hk
          rcases of_decide_eq_true hk with hk | hk
          · omega
          · exact fun e => hk e.symm
        have hlt : Op.bytesLess d[m - 1]! d[m]! = true := by
          cases hh : Op.bytesLess d[m - 1]! d[m]!
          · exact absurd (bl_total hh hlast) hne
          · rfl
        by_cases e : j = m - 1
        · subst e; exact hlt
        · have := hs j (m - 1) (by omega) (by omega)
          cases hh : Op.bytesLess d[j]! d[m - 1]!
          · rw [bl_total hh this]; exact hlt
          · exact bl_trans hh hlt
      · rw [List.mem_append, h2]; simp
        constructor
        · rintro (⟨j, hj, rfl⟩ | rfl)
          · exact ⟨j, by omega, rfl⟩
          · exact ⟨m, by omega, rfl⟩
        · rintro ⟨j, hj, rfl⟩
          by_cases e : j = m
          · subst e; exact .inr rfl
          · exact .inl ⟨j, by omega, rfl⟩
    · rw [if_neg hk, List.append_nil]
      refine ⟨h1, fun x => ?_⟩
      rw [h2]
      have hm : 0 < m ∧ d[m]! = d[m - 1]! := by
        have hk' : Lib.keeps d m = false := by simpa using hk
        have hn := of_decide_eq_false hk'
        refine ⟨?_, ?_⟩
        · rcases Nat.eq_zero_or_pos m with e | e
          · exact absurd (.inl e) hn
          · exact e
        · by_cases e : d[m]! = d[m - 1]!
          · exact e
          · exact absurd (.inr e) hn
      constructor
      · rintro ⟨j, hj, rfl⟩; exact ⟨j, by omega, rfl⟩
      · rintro ⟨j, hj, rfl⟩
        by_cases e : j = m
        · subst e; exact ⟨j - 1, by omega, hm.2.symm⟩
        · exact ⟨j, by omega, rfl⟩
theorem order_both (ss : List ByteArray) : RisingS (orderS ss) ∧ ∀ x, x ∈ orderS ss ↔ x ∈ ss.map ByteArray.toList := by
  have hp : (sortS (ss.map ByteArray.toList)).Perm (ss.map ByteArray.toList) := List.mergeSort_perm _ _
  have hso := sortS_sorted (ss.map ByteArray.toList)
  have h := compact_inv (sortS (ss.map ByteArray.toList)).toArray (fun i j hij hj => by
    have hj' : j < (sortS (ss.map ByteArray.toList)).length := by simpa using hj
    have hi' : i < (sortS (ss.map ByteArray.toList)).length := by omega
    by_cases e : i = j
    · subst e; exact bl_irrefl _
    · have := List.pairwise_iff_getElem.1 hso i j hi' hj' (by omega)
      simpa [getElem!_pos, hi', hj'] using this) _ (Nat.le_refl _)
  refine ⟨by simpa [orderS, Lib.compact] using h.1, fun x => ?_⟩
  have h2 := h.2 x
  rw [← hp.mem_iff]
  unfold orderS Lib.compact
  simp only [List.size_toArray] at h2
  rw [h2]
  constructor
  · rintro ⟨j, hj, rfl⟩
    simp [getElem!_pos, hj]
  · intro hx
    obtain ⟨j, hj, e⟩ := List.getElem_of_mem hx
    exact ⟨j, hj, by simpa [getElem!_pos, hj] using e⟩
theorem risingS_ext : ∀ {l k : List (List UInt8)}, RisingS l → RisingS k → (∀ x, x ∈ l ↔ x ∈ k) → l = k
  | [], [], _, _, _ => rfl
  | [], y :: r, _, _, h => by have := (h y).2 (by simp); simp at this
  | y :: r, [], _, _, h => by have := (h y).1 (by simp); simp at this
  | y :: r, z :: s, hl, hk, h => by
    unfold RisingS at hl hk
    rw [List.pairwise_cons] at hl hk
    have no : ∀ a : List UInt8, Op.bytesLess a a = true → False := fun a ha => by rw [bl_irrefl] at ha; cases ha
    have e : y = z := by
      have h1 := (h y).1 (by simp)
      have h2 := (h z).2 (by simp)
      rcases List.mem_cons.1 h1 with h1 | h1
      · exact h1
      · rcases List.mem_cons.1 h2 with h2 | h2
        · exact h2.symm
        · exact (no _ (bl_trans (hk.1 y h1) (hl.1 z h2))).elim
    subst e
    rw [risingS_ext hl.2 hk.2 (fun x => ?_)]
    have := h x
    simp only [List.mem_cons] at this
    constructor
    · intro hx
      rcases this.1 (.inr hx) with rfl | h3
      · exact (no _ (hl.1 x hx)).elim
      · exact h3
    · intro hx
      rcases this.2 (.inr hx) with rfl | h3
      · exact (no _ (hk.1 x hx)).elim
      · exact h3
theorem order_len (ss : List ByteArray) : (orderS ss).length ≤ ss.length := by
  have h := Lib.compact_length_le (sortS (ss.map ByteArray.toList))
  simpa [orderS, sortS] using h
/-- What is in order already is left as it is. -/
theorem order_again (ss ts : List ByteArray) (h : ts.map ByteArray.toList = orderS ss) : orderS ts = orderS ss :=
  risingS_ext (order_both ts).1 (order_both ss).1 (fun x => by rw [(order_both ts).2 x, h])
end Go.Proofs.Ytdlmipoeeiaapaa
