/-
  A row of samples in a block of the call's own, written in place.
-/
import Derived.Test.YtcmlfepmgiikpaaSmp
import Derived.Test.YtcmlfepmgiikpaaRecRowV
namespace Go.Proofs.Ytcmlfepmgiikpaa
open Go.RowKit Go.Maps Go.Sort
instance : Inhabited Smp := ⟨⟨ByteArray.empty, 0, 0⟩⟩

structure SRowAt (w : World) (g cap : Nat) (R : List Smp) : Prop where
  at_ : ∃ cur, w.heap[g]? = some (.cells cur 28 (0, 0)) ∧ R.length ≤ cap ∧ cap ≤ maxLen ∧ cur.size = cap * 3 ∧ cur.toList.take (R.length * 3) = R.flatMap Smp.cells
theorem SRowAt.lt {w : World} {g cap : Nat} {R : List Smp} (h : SRowAt w g cap R) : g < w.heap.size := by obtain ⟨_, h1, _⟩ := h.at_; exact lt_of_block h1
theorem SRowAt.le {w : World} {g cap : Nat} {R : List Smp} (h : SRowAt w g cap R) : R.length ≤ cap := by obtain ⟨_, _, h1, _⟩ := h.at_; exact h1
theorem SRowAt.own {w : World} {g cap B : Nat} {R : List Smp} (h : SRowAt w g cap R) (hB : B ≤ g) : w.ownsRow B 28 3 (.slice (some ⟨g, 0, none⟩) R.length cap) R.length (R.flatMap Smp.cells) := by
  obtain ⟨cur, h1, h2, h3, h4, h5⟩ := h.at_
  exact ⟨rowK_len smp_len R, .inr ⟨g, cap, cur, rfl, hB, h1, h2, h3, h4, h5⟩⟩
theorem SRowAt.kept {w w' : World} {g cap : Nat} {R : List Smp} {row : Option Nat} (h : SRowAt w g cap R) (hg : w.grownBy w' row) (hne : some g ≠ row) : SRowAt w' g cap R := by
  obtain ⟨cur, h1, h2⟩ := h.at_
  exact ⟨cur, (hg.block g h.lt hne).trans h1, h2⟩
theorem SRowAt.get {w : World} {g cap : Nat} {R : List Smp} (h : SRowAt w g cap R) {j : Nat} (hj : j < R.length) : SmpCells w g (j * 3) R[j] := by
  have ho := h.own (Nat.zero_le g)
  have key : ∀ q, q < 3 → w.cell? ⟨g, j * 3 + q, none⟩ = R[j].cells[q]? := fun q hq => by
    rw [ho.cellAt (j * 3 + q) (by omega), rowK_get smp_len R j hj q hq]
  exact ⟨key 0 (by omega), key 1 (by omega), key 2 (by omega)⟩
theorem SRowAt.free {w : World} {g cap : Nat} {R : List Smp} (h : SRowAt w g cap R) (o : Nat) : w.frozen? ⟨g, o, none⟩ = false := by
  obtain ⟨cur, h1, _⟩ := h.at_
  exact frozen_of_row w g o _ _ h1
theorem SRowAt.set {w : World} {g cap : Nat} {R : List Smp} (h : SRowAt w g cap R) (i : Nat) (x : Smp) : SRowAt (w.setCells g (i * 3) x.cells) g cap (R.set i x) := by
  obtain ⟨cur, h1, h2, h3, h4, h5⟩ := h.at_
  refine ⟨_, heap_setCells g _ _ _ _ _ h1, by simpa using h2, h3, by simpa using h4, ?_⟩
  rw [List.length_set]
  apply List.ext_getElem?
  intro t
  by_cases ht : t < R.length * 3
  · have hts : t < cur.size := by rw [h4]; exact Nat.lt_of_lt_of_le ht (Nat.mul_le_mul_right _ h2)
    have hj : t / 3 < R.length := by omega
    have hq : t % 3 < 3 := Nat.mod_lt _ (by omega)
    have e1 := rowK_get smp_len (R.set i x) (t / 3) (by simpa using hj) (t % 3) hq
    rw [Nat.div_add_mod' t 3] at e1
    have e2 := rowK_get smp_len R (t / 3) hj (t % 3) hq
    rw [Nat.div_add_mod' t 3, ← h5, List.getElem?_take_of_lt ht, Array.getElem?_toList] at e2
    rw [List.getElem?_take_of_lt ht, Array.getElem?_toList, e1]
    have e3 := get_setMany x.cells (i * 3) cur t hts
    rw [Array.getElem?_eq_getElem (by simpa using hts), ← getElem!_pos _ t (by simpa using hts), e3, smp_len]
    by_cases hr : i * 3 ≤ t ∧ t < i * 3 + 3
    · rw [if_pos hr]
      have ei : i = t / 3 := by omega
      have em : t - i * 3 = t % 3 := by omega
      rw [em, List.getElem_set, if_pos ei, getElem!_pos _ _ (by rw [smp_len]; exact hq), List.getElem?_eq_getElem (by rw [smp_len]; exact hq)]
    · rw [if_neg hr, List.getElem_set, if_neg (by omega), ← e2, Array.getElem?_eq_getElem hts, getElem!_pos _ t hts]
  · rw [List.getElem?_take_eq_none (by omega), List.getElem?_eq_none (by rw [rowK_len smp_len]; simp; omega)]
theorem sswap_perm (l : List Smp) (a b : Nat) (ha : a < l.length) (hb : b < l.length) : ((l.set a l[b]).set b l[a]).Perm l := List.set_set_perm ha hb
/-- A list of records in memory that the call has made. -/
def SMRow (w : World) (B : Nat) (v : Value) (n : Nat) (ms : List Smp) : Prop := ms.length = n ∧ w.ownsRow B 28 3 v n (ms.flatMap Smp.cells)
theorem SMRow.kept {w w' : World} {B n : Nat} {v : Value} {ms : List Smp} {row : Option Nat} (h : SMRow w B v n ms) (hg : w.grownBy w' row) (hr : ∀ k, v.ownBlock = some k → some k ≠ row) : SMRow w' B v n ms := by
  refine ⟨h.1, h.2.kept hg ?_⟩
  cases hv : v.ownBlock with
  | none => exact .inl rfl
  | some k => exact .inr (hr k hv)
theorem SMRow.below {w w' : World} {B n : Nat} {v : Value} {ms : List Smp} (h : SMRow w B v n ms) (hb : Below w.heap.size w w') : SMRow w' B v n ms := h.kept (grown_of_below hb none) (fun _ _ => by simp)
theorem SMRow.row {w : World} {B n : Nat} {v : Value} {ms : List Smp} (h : SMRow w B v n ms) (h0 : 0 < n) : ∃ g c, v = .slice (some ⟨g, 0, none⟩) n c ∧ B ≤ g ∧ SRowAt w g c ms := by
  obtain ⟨rfl, h2⟩ := h
  rcases h2.2 with ⟨rfl, h1⟩ | ⟨g, cap, cur, rfl, hb, h1, h2, h3, h4, h5⟩
  · omega
  · exact ⟨g, cap, rfl, hb, ⟨cur, h1, h2, h3, h4, h5⟩⟩
theorem SMRow.of_row {w : World} {B g c : Nat} {ms : List Smp} (h : SRowAt w g c ms) (hB : B ≤ g) : SMRow w B (.slice (some ⟨g, 0, none⟩) ms.length c) ms.length ms := ⟨rfl, h.own hB⟩
theorem SMRow.smps {w : World} {B n : Nat} {v : Value} {ms : List Smp} (h : SMRow w B v n ms) (hok : ∀ r ∈ ms, r.Ok) (hn : n ≤ maxLen) : ∃ A c, v = .slice A n c ∧ Smps w A n ms := by
  obtain ⟨hl, h2⟩ := h
  obtain ⟨A, c, e, hs⟩ := own_sl h2
  exact ⟨A, c, e, hs, hl, hn, hok⟩
/-- A sample stored into a row, cell by cell. -/
abbrev setSmp (w : World) (g o : Nat) (x : Smp) : World := ((w.setCell ⟨g, o, none⟩ (.string x.nm)).setCell ⟨g, o + 1, none⟩ (.int .i64 x.tm)).setCell ⟨g, o + 2, none⟩ (.int .i64 x.vl)
theorem set_smp (w : World) (g o : Nat) (x : Smp) : setSmp w g o x = w.setCells g o x.cells := rfl
theorem SRowAt.setSmp {w : World} {g cap : Nat} {R : List Smp} (h : SRowAt w g cap R) (i : Nat) (x : Smp) : SRowAt (setSmp w g (i * 3) x) g cap (R.set i x) := by
  rw [set_smp]; exact h.set i x
theorem srow_set_get {w : World} {g cap : Nat} {R : List Smp} (h : SRowAt w g cap R) (a b : Nat) (hb : b < R.length) (x : Smp) : ∃ z : Smp, SmpCells (Go.Proofs.Ytcmlfepmgiikpaa.setSmp w g (a * 3) x) g (b * 3) z :=
  ⟨_, (h.setSmp a x).get (j := b) (by simpa using hb)⟩
theorem info_smp : (Try.prog.info? 28).map (fun i => (i.zero, i.size, i.bytes)) = some (some (.agg #[.string ByteArray.empty, .int .i64 0, .int .i64 0]), 3, 32) := by kernel_rfl
theorem smps_cells {w : World} {A : Option Addr} {n : Nat} {l : List Smp} (h : Smps w A n l) : (l.flatMap Smp.cells).length = n * 3 := by rw [rowK_len smp_len, h.len]
/-! The order of the samples does not matter. -/
theorem recs_perm (r : Rch) (i : Int) {l m : List Smp} (h : l.Perm m) : (recsOf r i l).Perm (recsOf r i m) := h.filterMap _
theorem view_perm (r : Rch) (i : Int) {l m : List Smp} (h : l.Perm m) (hok : ∀ s ∈ l, s.Ok) : viewL r i l = viewL r i m :=
  addL_perm (recs_perm r i h) (fun x hx => (recs_ok hok x hx).2.1.ok)
/-- A sample that the tier does not have changes nothing. -/
theorem view_less (r : Rch) (i : Int) (l : List Smp) (s : Smp) (h : r.has i s.tm = false) : viewL r i (l ++ [s]) = viewL r i l := by
  unfold viewL
  rw [recs_snoc]
  unfold itemOf
  rw [h]
  simp
end Go.Proofs.Ytcmlfepmgiikpaa
