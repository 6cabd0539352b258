/-
  sedimentref1.Hash, Shard, Less; texts that are put in order one by one.
-/
import Derived.Test.YtcglbbabfkbcbaaNameLess
import Derived.Test.YtcglbbabfkbcbaaOrdStrs
import Derived.WalkLawsBesides
import Derived.Lib.Hide
namespace Go.Proofs.Ytcglbbabfkbcbaa
open Go.RowKit

set_option maxHeartbeats 400000 in
theorem refHash_any (s : ByteArray) (w : World) (hs : s.size ≤ maxLen) :
    Calls Try.prog 8 #[.string s] w fun e w' => e = .returned (.int .u32 (hash s.toList)) ∧ w = w' := by
  unfold maxLen at hs
  go_enter Try.func8, Try.ntmps8
  go_wp2
  go_loop [3, 4] (fun x i => ∃ k : Nat, k ≤ s.size ∧ i = .int .i64 k ∧ x = .int .u32 (hash (s.toList.take k))) (fun _ i => s.size - (intOf i).toNat)
  case atStart => exact ⟨0, Nat.zero_le _, rfl, rfl⟩
  case round =>
    obtain ⟨k, hk, rfl, rfl⟩ := hrel
    by_cases hlt : k < s.size
    · have HS : Hid (hash (s.toList.take (k + 1)) = hstep (hash (s.toList.take k)) s[k]) := by rw [take_snoc s k hlt]; exact hash_snoc _ _
      go_wp2
      go_round
      case rel => exact ⟨k + 1, by omega, by go_num, by rw [HS.out]; rfl⟩
      case measure => simp [intOf]; omega
    · go_wp2
      go_ret
      exact ⟨by rw [List.take_of_length_le (by rw [len_toList]; omega)]; rfl, rfl⟩
set_option maxHeartbeats 400000 in
theorem refShard_any (s : ByteArray) (n : Int) (w : World) (hs : s.size ≤ maxLen) :
    Calls Try.prog 10 #[.string s, .int .i64 n] w fun e w' => e = .returned (.int .i64 (shardI s.toList n)) ∧ w = w' := by
  have hb := hash_bd s.toList
  by_cases h : n < 1
  · have hf : Hid (shardI s.toList n = 0) := if_pos h
    go_enter Try.func10, Try.ntmps10
    go_wp2
    go_ret
    exact ⟨by rw [hf.out]; rfl, rfl⟩
  · have hf : Hid (shardI s.toList n = hash s.toList % n) := if_neg h
    go_enter Try.func10, Try.ntmps10
    go_wp2_with (go_at_call 8; refine (refHash_any _ _ hs).mono ?_; rintro e w' ⟨rfl, rfl⟩)
    go_ret
    exact ⟨by rw [hf.out]; rfl, rfl⟩
theorem list_eq' {x y : ByteArray} (h : x.toList = y.toList) : x = y := by
  rw [ByteArray.toList_eq, ByteArray.toList_eq] at h
  exact ByteArray.ext (Array.ext' h)
set_option maxRecDepth 100000 in
set_option maxHeartbeats 1000000 in
theorem refLess_any (a b : ByteArray) (x y : Int) (r s t u v r' s' t' u' v' : Value) (w : World) :
    Calls Try.prog 18 #[.agg #[.string a, .int .i64 x, r, s, t, u, v], .agg #[.string b, .int .i64 y, r', s', t', u', v']] w fun e w' => e = .returned (.bool (aheadB a.toList x b.toList y)) ∧ Below w.heap.size w w' := by
  have hb : Below w.heap.size w ((w.alloc (.cells #[.string a, .int .i64 x, r, s, t, u, v] 27)).alloc (.cells #[.string b, .int .i64 y, r', s', t', u', v'] 27)) := ((Below.refl _ _).alloc (Nat.le_refl _) _).alloc (by simp) _
  by_cases h1 : Op.bytesLess a.toList b.toList = true
  · have HF := Lib.hid (show aheadB a.toList x b.toList y = true from (aheadB_iff _ _ _ _).2 (.inl h1))
    go_enter Try.func18, Try.ntmps18
    go_wp2
    go_ret
    exact ⟨by rw [HF.out]; rfl, hb⟩
  · have h1' : Op.bytesLess a.toList b.toList = false := by simpa using h1
    by_cases h2 : a = b
    · subst h2
      have HF := Lib.hid (show aheadB a.toList x a.toList y = decide (x < y) from by
        rw [Bool.eq_iff_iff, aheadB_iff, decide_eq_true_eq]
        constructor
        · rintro (h | ⟨_, h⟩)
          · rw [h1'] at h; cases h
          · exact h
        · exact fun h => .inr ⟨rfl, h⟩)
      clear h1
      go_enter Try.func18, Try.ntmps18
      go_wp2
      go_ret
      exact ⟨by rw [HF.out]; rfl, hb⟩
    · have h3 : (a.toList == b.toList) = false := beq_eq_false_iff_ne.2 fun e => h2 (list_eq' e)
      have HF := Lib.hid (show aheadB a.toList x b.toList y = false from by
        cases hh : aheadB a.toList x b.toList y
        · rfl
        · rcases (aheadB_iff _ _ _ _).1 hh with h | ⟨h, _⟩
          · rw [h1'] at h; cases h
          · exact absurd (list_eq' h) h2)
      clear h1 h2
      go_enter Try.func18, Try.ntmps18
      go_wp2
      go_ret
      exact ⟨by rw [HF.out]; rfl, hb⟩

/-! One text more, put where it belongs. -/
/-- The texts behind place k are not ahead of it, those ahead of k are. -/
theorem rising_put {l : List (List UInt8)} {s : List UInt8} {k : Nat} (hr : RisingS l) (hk : k ≤ l.length) (h1 : ∀ j (h : j < k), Op.bytesLess (l[j]'(by omega)) s = true) (h2 : ∀ h : k < l.length, Op.bytesLess l[k] s = false ∧ l[k] ≠ s) :
    RisingS (l.take k ++ [s] ++ l.drop k) := by
  unfold RisingS at *
  rw [List.pairwise_append, List.pairwise_append]
  have hbehind : ∀ x ∈ l.drop k, Op.bytesLess s x = true := by
    intro x hx
    obtain ⟨i, hi, rfl⟩ := List.mem_iff_getElem.1 hx
    rw [List.length_drop] at hi
    rw [List.getElem_drop]
    have hkl : k < l.length := by omega
    obtain ⟨a, b⟩ := h2 hkl
    have hk1 : Op.bytesLess s l[k] = true := by
      cases h : Op.bytesLess s l[k]
      · exact absurd (bl_total a h) b
      · rfl
    rcases Nat.eq_zero_or_pos i with h0 | h0
    · subst h0; exact hk1
    · exact bl_trans hk1 ((List.pairwise_iff_getElem.1 hr) k (k + i) hkl (by omega) (by omega))
  have hahead : ∀ x ∈ l.take k, Op.bytesLess x s = true := by
    intro x hx
    obtain ⟨i, hi, rfl⟩ := List.mem_iff_getElem.1 hx
    rw [List.length_take] at hi
    rw [List.getElem_take]
    exact h1 i (by omega)
  refine ⟨⟨hr.sublist (List.take_sublist _ _), List.pairwise_singleton _ _, fun x hx y hy => ?_⟩, hr.sublist (List.drop_sublist _ _), fun x hx y hy => ?_⟩
  · rw [List.mem_singleton.1 hy]; exact hahead x hx
  · rcases List.mem_append.1 hx with h | h
    · exact bl_trans (hahead x h) (hbehind y hy)
    · rw [List.mem_singleton.1 h]; exact hbehind y hy
/-- The texts of a list that are told so far, in order. -/
structure OrdTo (ss os : List ByteArray) : Prop where
  rises : RisingS (txt os)
  mem : ∀ x, x ∈ txt os ↔ x ∈ txt ss
  len : os.length ≤ ss.length
theorem OrdTo.nil : OrdTo [] [] := ⟨List.Pairwise.nil, fun _ => Iff.rfl, Nat.le_refl _⟩
theorem OrdTo.put {ss os : List ByteArray} {s : ByteArray} {k : Nat} (h : OrdTo ss os) (hk : k ≤ os.length) (h1 : ∀ j (h : j < k), Op.bytesLess (os[j]'(by omega)).toList s.toList = true) (h2 : ∀ h : k < os.length, Op.bytesLess os[k].toList s.toList = false ∧ os[k].toList ≠ s.toList) :
    OrdTo (ss ++ [s]) (os.take k ++ [s] ++ os.drop k) := by
  refine ⟨?_, fun x => ?_, by simp; have := h.len; omega⟩
  · have e : txt (os.take k ++ [s] ++ os.drop k) = (txt os).take k ++ [s.toList] ++ (txt os).drop k := by simp [txt]
    rw [e]
    exact rising_put h.rises (by simpa [txt] using hk) (fun j hj => by simpa [txt] using h1 j hj) (fun hj => by simpa [txt] using h2 (by simpa [txt] using hj))
  · have hm := h.mem x
    have e : x ∈ txt (os.take k ++ [s] ++ os.drop k) ↔ x ∈ txt os ∨ x = s.toList := by
      have : txt os = txt (os.take k) ++ txt (os.drop k) := by rw [txt, txt, txt, ← List.map_append, List.take_append_drop]
      rw [this]
      simp only [txt, List.map_append, List.mem_append, List.map_cons, List.map_nil, List.mem_singleton]
      constructor
      · rintro ((h | h) | h)
        · exact .inl (.inl h)
        · exact .inr h
        · exact .inl (.inr h)
      · rintro ((h | h) | h)
        · exact .inl (.inl h)
        · exact .inr h
        · exact .inl (.inr h)
    rw [e, hm]; simp [txt]
theorem OrdTo.same {ss os : List ByteArray} {s : ByteArray} (h : OrdTo ss os) (hs : s.toList ∈ txt os) : OrdTo (ss ++ [s]) os := by
  refine ⟨h.rises, fun x => ?_, by simp; have := h.len; omega⟩
  rw [h.mem]
  have h2 := (h.mem _).1 hs
  simp only [txt, List.map_append, List.mem_append, List.map_cons, List.map_nil, List.mem_singleton] at h2 ⊢
  constructor
  · exact .inl
  · rintro (h | rfl)
    · exact h
    · exact h2
theorem OrdTo.is {ss os : List ByteArray} (h : OrdTo ss os) : os = ordB ss := by
  have e : txt os = txt (ordB ss) := by
    rw [txt_ordB]
    exact risingS_ext h.rises (order_both ss).1 fun x => by rw [h.mem, (order_both ss).2]; rfl
  have hl : os.length = (ordB ss).length := by have := congrArg List.length e; simpa [txt] using this
  apply List.ext_getElem hl
  intro i h1 h2
  have : (txt os)[i]'(by simpa [txt] using h1) = (txt (ordB ss))[i]'(by simpa [txt] using h2) := by simp only [e]
  simp only [txt, List.getElem_map] at this
  exact list_eq' this
end Go.Proofs.Ytcglbbabfkbcbaa
