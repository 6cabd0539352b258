/-
  A row of records in a block of the call's own, written in place.
-/
import Derived.Test.YtdlmipoeeiaapaaTableNeed
import Derived.Lib.SliceRun
namespace Go.Proofs.Ytdlmipoeeiaapaa
open Go.RowKit Go.Maps Go.Sort

structure RowAt (w : World) (g cap : Nat) (R : List Rc) : Prop where
  at_ : ∃ cur, w.heap[g]? = some (.cells cur 34 (0, 0)) ∧ R.length ≤ cap ∧ cap ≤ maxLen ∧ cur.size = cap * 7 ∧ cur.toList.take (R.length * 7) = R.flatMap Rc.cells
theorem RowAt.lt {w : World} {g cap : Nat} {R : List Rc} (h : RowAt w g cap R) : g < w.heap.size := by obtain ⟨_, h1, _⟩ := h.at_; exact lt_of_block h1
theorem RowAt.le {w : World} {g cap : Nat} {R : List Rc} (h : RowAt w g cap R) : R.length ≤ cap := by obtain ⟨_, _, h1, _⟩ := h.at_; exact h1
theorem RowAt.own {w : World} {g cap B : Nat} {R : List Rc} (h : RowAt w g cap R) (hB : B ≤ g) : w.ownsRow B 34 7 (.slice (some ⟨g, 0, none⟩) R.length cap) R.length (R.flatMap Rc.cells) := by
  obtain ⟨cur, h1, h2, h3, h4, h5⟩ := h.at_
  exact ⟨rowK_len rc_len R, .inr ⟨g, cap, cur, rfl, hB, h1, h2, h3, h4, h5⟩⟩
theorem RowAt.kept {w w' : World} {g cap : Nat} {R : List Rc} {row : Option Nat} (h : RowAt w g cap R) (hg : w.grownBy w' row) (hne : some g ≠ row) : RowAt w' g cap R := by
  obtain ⟨cur, h1, h2⟩ := h.at_
  exact ⟨cur, (hg.block g h.lt hne).trans h1, h2⟩
theorem RowAt.get {w : World} {g cap : Nat} {R : List Rc} (h : RowAt w g cap R) {j : Nat} (hj : j < R.length) : RcCells w g (j * 7) R[j] := by
  have ho := h.own (Nat.zero_le g)
  have key : ∀ q, q < 7 → w.cell? ⟨g, j * 7 + q, none⟩ = R[j].cells[q]? := fun q hq => by
    rw [ho.cellAt (j * 7 + q) (by omega), rowK_get rc_len R j hj q hq]
  exact ⟨key 0 (by omega), key 1 (by omega), key 2 (by omega), key 3 (by omega), key 4 (by omega), key 5 (by omega), key 6 (by omega)⟩
theorem RowAt.free {w : World} {g cap : Nat} {R : List Rc} (h : RowAt w g cap R) (o : Nat) : w.frozen? ⟨g, o, none⟩ = false := by
  obtain ⟨cur, h1, _⟩ := h.at_
  exact frozen_of_row w g o _ _ h1
theorem heap_setCells (g : Nat) (T : TypeId) : ∀ (vs : List Value) (o : Nat) (w : World) (cs : Array Value), w.heap[g]? = some (.cells cs T (0, 0)) → (w.setCells g o vs).heap[g]? = some (.cells (setMany cs o vs) T (0, 0))
  | [], _, _, _, h => h
  | v :: r, o, w, cs, h => heap_setCells g T r (o + 1) _ _ (heap_setCell_same w g o cs T v h)
theorem grown_setCells (g : Nat) : ∀ (vs : List Value) (o : Nat) (w : World), w.grownBy (w.setCells g o vs) (some g)
  | [], _, w => World.grownBy.refl w _
  | v :: r, o, w => by
    have h1 : w.grownBy (w.setCell ⟨g, o, none⟩ v) (some g) := ⟨rfl, rfl, rfl, by simp, fun k hk hne => Below.heap_setCell w _ v k (fun e => hne (by rw [e]))⟩
    exact h1.andThen (grown_setCells g r (o + 1) _) (fun j hj => by cases hj; exact Or.inr rfl)
theorem take_setMany (cs : Array Value) (o : Nat) (vs : List Value) (n : Nat) (h : n ≤ o) : (setMany cs o vs).toList.take n = cs.toList.take n := by
  apply List.ext_getElem?
  intro t
  by_cases ht : t < n
  · rw [List.getElem?_take_of_lt ht, List.getElem?_take_of_lt ht, Array.getElem?_toList, Array.getElem?_toList]
    by_cases hc : t < cs.size
    · have := get_setMany vs o cs t hc
      rw [if_neg (by omega)] at this
      rw [Array.getElem?_eq_getElem (by simpa using hc), Array.getElem?_eq_getElem hc, ← getElem!_pos _ t (by simpa using hc), ← getElem!_pos _ t hc, this]
    · rw [Array.getElem?_eq_none (by simp; omega), Array.getElem?_eq_none (by omega)]
  · rw [List.getElem?_take_eq_none (by omega), List.getElem?_take_eq_none (by omega)]
theorem RowAt.set {w : World} {g cap : Nat} {R : List Rc} (h : RowAt w g cap R) (i : Nat) (x : Rc) : RowAt (w.setCells g (i * 7) x.cells) g cap (R.set i x) := by
  obtain ⟨cur, h1, h2, h3, h4, h5⟩ := h.at_
  refine ⟨_, heap_setCells g _ _ _ _ _ h1, by simpa using h2, h3, by simpa using h4, ?_⟩
  rw [List.length_set]
  apply List.ext_getElem?
  intro t
  by_cases ht : t < R.length * 7
  · have hts : t < cur.size := by rw [h4]; exact Nat.lt_of_lt_of_le ht (Nat.mul_le_mul_right _ h2)
    have hj : t / 7 < R.length := by omega
    have hq : t % 7 < 7 := Nat.mod_lt _ (by omega)
    have e1 := rowK_get rc_len (R.set i x) (t / 7) (by simpa using hj) (t % 7) hq
    rw [Nat.div_add_mod' t 7] at e1
    have e2 := rowK_get rc_len R (t / 7) hj (t % 7) hq
    rw [Nat.div_add_mod' t 7, ← h5, List.getElem?_take_of_lt ht, Array.getElem?_toList] at e2
    rw [List.getElem?_take_of_lt ht, Array.getElem?_toList, e1]
    have e3 := get_setMany x.cells (i * 7) cur t hts
    rw [Array.getElem?_eq_getElem (by simpa using hts), ← getElem!_pos _ t (by simpa using hts), e3, rc_len]
    by_cases hr : i * 7 ≤ t ∧ t < i * 7 + 7
    · rw [if_pos hr]
      have ei : i = t / 7 := by omega
      have em : t - i * 7 = t % 7 := by omega
      rw [em, List.getElem_set, if_pos ei, getElem!_pos _ _ (by rw [rc_len]; exact hq), List.getElem?_eq_getElem (by rw [rc_len]; exact hq)]
    · rw [if_neg hr, List.getElem_set, if_neg (by omega), ← e2, Array.getElem?_eq_getElem hts, getElem!_pos _ t hts]
  · rw [List.getElem?_take_eq_none (by omega), List.getElem?_eq_none (by rw [rowK_len rc_len]; simp; omega)]
/-- What lies ahead of what is written stays. -/
theorem RowAt.cut {w : World} {g cap : Nat} {R : List Rc} (h : RowAt w g cap R) (i : Nat) (hi : i ≤ R.length) (vs : List Value) : RowAt (w.setCells g (i * 7) vs) g cap (R.take i) := by
  obtain ⟨cur, h1, h2, h3, h4, h5⟩ := h.at_
  have hl : (R.take i).length = i := by rw [List.length_take]; omega
  refine ⟨_, heap_setCells g _ _ _ _ _ h1, by omega, h3, by simpa using h4, ?_⟩
  rw [hl, take_setMany _ _ _ _ (Nat.le_refl _)]
  have e : cur.toList.take (i * 7) = (cur.toList.take (R.length * 7)).take (i * 7) := by rw [List.take_take, Nat.min_eq_left (Nat.mul_le_mul_right _ hi)]
  rw [e, h5]
  conv => lhs; rw [← List.take_append_drop i R]
  rw [List.flatMap_append]
  have hll := rowK_len rc_len (R.take i)
  rw [hl] at hll
  rw [← hll, List.take_left']
  rfl
theorem zero_rec (w : World) : (zeroValue 34).run Try.prog w = .ok (.agg #[.string ByteArray.empty, .int .i64 0, .int .i64 0, .int .i64 0, .int .u64 0, .int .i64 0, .int .i64 0]) w := by kernel_rfl
theorem clear_cells {P : Program} (w : World) (t e ty : TypeId) (z : Value) (ht : P.underlying t = some (.slice e)) (hv : ∀ w, (zeroValue e).run P w = .ok z w) (b o n c : Nat) (hn : 0 < n) (vs : List Value) (hvs : (Builtin.zeroCells z.cells n).toList = vs)
    (hst : (storeCells ⟨b, o, none⟩ vs 0).run P w = .ok () (w.setCells b o vs)) : (Builtin.clear_ #[t] ty #[.slice (some ⟨b, o, none⟩) n c]).run P w = .ok (.tuple #[]) (w.setCells b o vs) := by
  obtain ⟨m, rfl⟩ : ∃ m, n = m + 1 := ⟨n - 1, by omega⟩
  simp [Builtin.clear_, run_underlying ht, hv, hvs, hst]
/-- 'clear' of the end of a row. -/
theorem clear_row {w : World} {g cap : Nat} {R : List Rc} (h : RowAt w g cap R) (i : Nat) (hi : i < R.length) (c : Nat) (ty : TypeId) :
    ∃ vs, (Builtin.clear_ #[22] ty #[.slice (some ⟨g, i * 7, none⟩) (R.length - i) c]).run Try.prog w = .ok (.tuple #[]) (w.setCells g (i * 7) vs) := by
  obtain ⟨z, hz⟩ : ∃ z : Value, z = .agg #[.string ByteArray.empty, .int .i64 0, .int .i64 0, .int .i64 0, .int .u64 0, .int .i64 0, .int .i64 0] := ⟨_, rfl⟩
  have hzc : z.cells = #[.string ByteArray.empty, .int .i64 0, .int .i64 0, .int .i64 0, .int .u64 0, .int .i64 0, .int .i64 0] := by rw [hz]; rfl
  obtain ⟨vs, hvs⟩ : ∃ vs, vs = (Builtin.zeroCells z.cells (R.length - i)).toList := ⟨_, rfl⟩
  have hlen : vs.length = (R.length - i) * 7 := by rw [hvs]; simp [Builtin.zeroCells, hzc]
  have hone : ∀ v ∈ vs, v.oneCell' = true := by
    intro v hv
    rw [hvs, hzc] at hv
    simp [Builtin.zeroCells] at hv
    obtain ⟨t, _, rfl⟩ := hv
    have hm : t % 7 < 7 := Nat.mod_lt _ (by omega)
    generalize t % 7 = q at hm ⊢
    match q, hm with
    | 0, _ => rfl
    | 1, _ => rfl
    | 2, _ => rfl
    | 3, _ => rfl
    | 4, _ => rfl
    | 5, _ => rfl
    | 6, _ => rfl
  have ho := h.own (Nat.zero_le g)
  have hst := run_storeCells_cells (P := Try.prog) g (i * 7) vs 0 w (fun j hj => by
    rw [Nat.add_zero, ho.cellAt (i * 7 + j) (by omega), List.getElem?_eq_getElem (by rw [rowK_len rc_len]; omega)]; rfl) (fun j hj => h.free _) hone
  refine ⟨vs, ?_⟩
  simp only [Nat.add_zero] at hst
  exact clear_cells w _ _ ty z Try.underlying22 (fun W => by rw [hz]; exact zero_rec W) g (i * 7) _ c (by omega) vs hvs.symm hst
end Go.Proofs.Ytdlmipoeeiaapaa
