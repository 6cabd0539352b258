/-
  Several texts in one: AllV, FillV.
-/
import Derived.Test.YtcglbbabfkbcbadGreatM5
import Derived.Maps.AppendAt
import Derived.Laws.OwnMore
import Derived.Test.YtcglbbabfkbcbadGreatM4
/- Rows of records, sorted. -/
namespace Go.Proofs.YtcglbbabfkbcbadGreat
open Go.RowKit Go.Maps Go.Shelf

theorem rc_len (r : Rc) : r.cells.length = 7 := rfl
theorem info_rec : (Tryz.prog.info? 61).map (fun i => (i.zero, i.size, i.bytes)) = some (some (.agg #[.string ByteArray.empty, .int .i64 0, .int .i64 0, .int .i64 0, .int .u64 0, .int .i64 0, .int .i64 0]), 7, 64) := by kernel_rfl
theorem cells_new (w : World) (cs : Array Value) (T : TypeId) : ∀ j u, cs.toList[j]? = some u → (w.alloc (.cells cs T)).cell? ((⟨w.heap.size, 0, none⟩ : Addr).add j) = some u := by
  intro j u h
  rw [Addr.add_lit, Nat.zero_add, cell_of_row _ _ j _ _ _ (heap_alloc_new w _)]
  simpa using h
/-- Sorted, and of other places each: that is the list in order. -/
theorem sorted_is {l xs : List Rc} {d' : Array Rc} (hl : l.Pairwise Rc.lt) (hx : xs.Perm l) (hp : Go.Sort.PermIn 0 xs.toArray.size xs.toArray d') (hs : Go.Sort.SortedIn (ltOf cmpRc) 0 xs.toArray.size d') : d'.toList = l := by
  obtain ⟨hsz, _, hperm⟩ := hp
  have e1 : d'.extract 0 xs.toArray.size = d' := by rw [← hsz]; exact Array.extract_size
  rw [e1, Array.extract_size] at hperm
  have hpl : d'.toList.Perm l := hperm.trans hx
  have hap : l.Pairwise (fun r s => r.same s = false) := hl.imp Rc.lt_not_same
  have hap' : d'.toList.Pairwise (fun r s => r.same s = false) := (hpl.pairwise_iff (fun {r s} h => by rw [Rc.same_symm]; exact h)).2 hap
  refine ord_ext ?_ hl hpl
  rw [List.pairwise_iff_getElem] at hap' ⊢
  intro i j hi hj hij
  have h1 := hap' i j hi hj hij
  have h2 := hs i j (Nat.zero_le _) hij (by rw [← hsz]; simpa using hj)
  simp at hi hj
  rw [getElem!_pos d' i hi, getElem!_pos d' j hj, ltOf_rc] at h2
  simp only [Array.getElem_toList] at h1 ⊢
  refine Rc.total ?_ (by rw [Rc.same_symm]; exact h1)
  intro h3
  unfold Rc.lt at h3
  rw [(aheadB_iff _ _ _ _).2 h3] at h2
  cases h2
theorem sort_none (p : Option Addr) (cap : Nat) (w : World) :
    Calls Tryz.prog 27 #[.slice p 0 cap, .func (.func 28) #[] #[]] w fun e w' => e = .returned (.tuple #[]) ∧ w' = w :=
  AnyF.slices_SortFunc_none Tryz.sortR p cap _ w
/-- A row of records, sorted: the same slice has them in order. -/
theorem sort_row {w : World} {base : Nat} {v : Value} {l xs : List Rc} (h : w.ownsRow base 61 7 v xs.length (xs.flatMap Rc.cells)) (hl : l.Pairwise Rc.lt) (hx : xs.Perm l) (hfew : xs.length < 1000000) :
    Calls Tryz.prog 27 #[v, .func (.func 28) #[] #[]] w fun e w' => e = .returned (.tuple #[]) ∧ w'.ownsRow base 61 7 v l.length (l.flatMap Rc.cells) ∧ w.grownBy w' v.ownBlock := by
  have hln : l.length = xs.length := hx.length_eq.symm
  rcases h.2 with ⟨rfl, h0⟩ | ⟨g, cap, cur, rfl, hg, hb, hc, hcm, hcs, ht⟩
  · refine (sort_none none 0 w).mono ?_
    rintro e w' ⟨rfl, rfl⟩
    have e1 : xs = [] := List.eq_nil_of_length_eq_zero h0
    subst e1
    have e2 : l = [] := List.eq_nil_of_length_eq_zero hln
    subst e2
    exact ⟨rfl, h, World.grownBy.refl _ _⟩
  · have hH := holdsK_of_block (cs := Rc.cells) (k := 7) rc_len hb ht
    have hS := sort_any g 0 cap xs.toArray w hH (lt_of_block hb) (by simp; omega)
    rw [List.size_toArray] at hS
    refine hS.mono ?_
    rintro e w' ⟨rfl, d', n, os, hp, hs, rfl⟩
    have e1 := sorted_is hl hx hp hs
    have e2 : d' = l.toArray := by rw [← e1]
    subst e2
    rw [hln]
    exact ⟨rfl, ownsRow_sortedK rc_len hln hg hb hc hcm hcs, grownBy_sortedK _⟩
theorem own_base {w : World} {B B' : Nat} {e : TypeId} {k n : Nat} {v : Value} {xs : List Value} (h : w.ownsRow B e k v n xs) (hb : B' ≤ B) : w.ownsRow B' e k v n xs :=
  ⟨h.1, h.2.imp id fun ⟨g, cap, cur, a, b, c⟩ => ⟨g, cap, cur, a, Nat.le_trans hb b, c⟩⟩
theorem own_other {w : World} {B : Nat} {e : TypeId} {k n : Nat} {v : Value} {xs : List Value} (h : w.ownsRow (B + 1) e k v n xs) : v.ownBlock = none ∨ v.ownBlock ≠ some B := by
  by_cases e : v.ownBlock = none
  · exact .inl e
  · exact .inr (fun e2 => by have := (h.lt _ e2).1; omega)
theorem own_ne {w : World} {B b : Nat} {e : TypeId} {k n : Nat} {v : Value} {xs : List Value} (h : w.ownsRow B e k v n xs) (hb : b < B) : some b ≠ v.ownBlock := fun e2 => by have := (h.lt _ e2.symm).1; omega
theorem one_cells' {r : Rc} : ∀ v ∈ r.cells, v.oneCell' = true := one_cells r
end Go.Proofs.YtcglbbabfkbcbadGreat
/- A table that is filled anew: what stands in it. -/
namespace Go.Proofs.YtcglbbabfkbcbadGreat
open Go.RowKit Go.Maps

theorem filter_at {α : Type} (p : α → Bool) (l : List α) (j : Nat) (h : j < l.length) (hp : p l[j] = true) : (l.filter p)[((l.take j).filter p).length]? = some l[j] := by
  conv => lhs; rw [← List.take_append_drop j l]
  rw [List.filter_append, List.getElem?_append_right (by rw [List.take_append_drop]; exact Nat.le_refl _), List.drop_eq_getElem_cons h, List.filter_cons, if_pos hp]
  simp
theorem filter_next {α : Type} (p : α → Bool) (l : List α) (j : Nat) (h : j < l.length) : ((l.take (j + 1)).filter p).length = ((l.take j).filter p).length + if p l[j] = true then 1 else 0 := by
  rw [List.take_succ_eq_append_getElem h, List.filter_append, List.length_append]
  congr 1
  rw [List.filter_cons]
  split <;> simp
/-- The filling of a new table, as the statements begin. -/
theorem fill_len (rs : List Rc) : (addL 1 [] rs).length ≤ rs.length := by have := addL_len (ev := 1) (l := []) (rs := rs); simpa using this
theorem mem_addL {ev : Int} {l rs : List Rc} {r : Rc} (h : r ∈ addL ev l rs) : r ∈ l ∨ ∃ x ∈ rs, rightR ev x = true ∧ r.nm = x.nm ∧ r.st = x.st := by
  obtain ⟨m, rfl⟩ : ∃ m : List Rc, rs = m.reverse := ⟨rs.reverse, by simp⟩
  induction m with
  | nil => exact .inl (by simpa [addL] using h)
  | cons a t ih =>
    rw [List.reverse_cons, addL_snoc] at h
    have hup : (r ∈ l ∨ ∃ x ∈ t.reverse, rightR ev x = true ∧ r.nm = x.nm ∧ r.st = x.st) → r ∈ l ∨ ∃ x ∈ (a :: t).reverse, rightR ev x = true ∧ r.nm = x.nm ∧ r.st = x.st := by
      rintro (h1 | ⟨x, hx, h1⟩)
      · exact .inl h1
      · exact .inr ⟨x, by rw [List.reverse_cons]; simp at hx ⊢; exact .inl hx, h1⟩
    unfold addR at h
    split at h
    · next e =>
      rcases mem_putR h with rfl | h
      · exact .inr ⟨a, by simp, e, rfl, rfl⟩
      · exact hup (ih h)
    · exact hup (ih h)
theorem fill_right {rs : List Rc} {r : Rc} (h : r ∈ addL 1 [] rs) : validB r.nm.toList = true ∧ 0 ≤ r.st := by
  rcases mem_addL h with h | ⟨x, _, hx, h1, h2⟩
  · cases h
  · unfold rightR at hx
    simp only [Bool.and_eq_true, decide_eq_true_eq] at hx
    rw [h1, h2]
    exact ⟨hx.1.1.1, hx.1.1.2⟩
end Go.Proofs.YtcglbbabfkbcbadGreat
