/-
  Slices of records; what Add makes of a table's records.
-/
import Derived.Test.YtcmlfepmgiikpaaRightV
import Derived.Test.YtcmlfepmgiikpaaMem
import Derived.Maps.OwnOps
namespace Go.Proofs.Ytcmlfepmgiikpaa
open Go.RowKit Go.Maps

/-- A slice of records. -/
structure Rcs (w : World) (A : Option Addr) (n : Nat) (l : List Rc) : Prop where
  sl : Sl w A (l.flatMap Rc.cells)
  len : l.length = n
  n_le : n ≤ maxLen
  nm : ∀ r ∈ l, r.nm.size ≤ maxLen
  st : ∀ r ∈ l, (Lit.int .i64 r.st).wf = true
  ok : ∀ r ∈ l, r.ag.Ok
theorem flatR_get (l : List Rc) (j : Nat) (hj : j < l.length) (q : Nat) (hq : q < 7) : (l.flatMap Rc.cells)[j * 7 + q]? = l[j].cells[q]? := by
  induction l generalizing j with
  | nil => simp at hj
  | cons a r ih =>
    rw [List.flatMap_cons]
    cases j with
    | zero =>
      rw [List.getElem?_append_left (by show 0 * 7 + q < 7; omega)]; simp
    | succ j =>
      rw [List.getElem?_append_right (by show 7 ≤ _; omega)]
      have : (j + 1) * 7 + q - a.cells.length = j * 7 + q := by show (j + 1) * 7 + q - 7 = _; omega
      rw [this, ih j (by simp at hj; omega)]; rfl
structure RcCells (w : World) (b off : Nat) (r : Rc) : Prop where
  c0 : w.cell? ⟨b, off, none⟩ = some (.string r.nm)
  c1 : w.cell? ⟨b, off + 1, none⟩ = some (.int .i64 r.st)
  c2 : w.cell? ⟨b, off + 2, none⟩ = some (.int .i64 r.ag.c)
  c3 : w.cell? ⟨b, off + 3, none⟩ = some (.int .i64 r.ag.hi)
  c4 : w.cell? ⟨b, off + 4, none⟩ = some (.int .u64 r.ag.lo)
  c5 : w.cell? ⟨b, off + 5, none⟩ = some (.int .i64 r.ag.mn)
  c6 : w.cell? ⟨b, off + 6, none⟩ = some (.int .i64 r.ag.mx)
theorem Rcs.get {w : World} {A : Option Addr} {n : Nat} {l : List Rc} (h : Rcs w A n l) {j : Nat} (hj : j < l.length) : ∃ b off, A = some ⟨b, off, none⟩ ∧ b < w.heap.size ∧ RcCells w b (off + j * 7) l[j] := by
  have hne : l.flatMap Rc.cells ≠ [] := by
    cases l with
    | nil => simp at hj
    | cons a r => simp [Rc.cells]
  obtain ⟨b, off, e, hb, hc⟩ := h.sl.at_ hne
  have g := fun q hq => flatR_get l j hj q hq
  have c0 := hc (j * 7 + 0) _ (g 0 (by omega))
  have c1 := hc (j * 7 + 1) _ (g 1 (by omega))
  have c2 := hc (j * 7 + 2) _ (g 2 (by omega))
  have c3 := hc (j * 7 + 3) _ (g 3 (by omega))
  have c4 := hc (j * 7 + 4) _ (g 4 (by omega))
  have c5 := hc (j * 7 + 5) _ (g 5 (by omega))
  have c6 := hc (j * 7 + 6) _ (g 6 (by omega))
  rw [← Nat.add_assoc] at c1 c2 c3 c4 c5 c6
  exact ⟨b, off, e, hb, c0, c1, c2, c3, c4, c5, c6⟩
theorem RcCells.keep {w w' : World} {b off : Nat} {r : Rc} {row : Option Nat} (h : RcCells w b off r) (hg : w.grownBy w' row) (hne : some b ≠ row) : RcCells w' b off r :=
  ⟨hg.cell h.c0 hne, hg.cell h.c1 hne, hg.cell h.c2 hne, hg.cell h.c3 hne, hg.cell h.c4 hne, hg.cell h.c5 hne, hg.cell h.c6 hne⟩
theorem RcCells.new (w : World) (r : Rc) : RcCells (w.alloc (.cells #[.string r.nm, .int .i64 r.st, .int .i64 r.ag.c, .int .i64 r.ag.hi, .int .u64 r.ag.lo, .int .i64 r.ag.mn, .int .i64 r.ag.mx] 50)) w.heap.size 0 r := by
  have e := heap_alloc_new w (.cells #[.string r.nm, .int .i64 r.st, .int .i64 r.ag.c, .int .i64 r.ag.hi, .int .u64 r.ag.lo, .int .i64 r.ag.mn, .int .i64 r.ag.mx] 50)
  exact ⟨cell_of_row _ _ 0 _ _ _ e, cell_of_row _ _ 1 _ _ _ e, cell_of_row _ _ 2 _ _ _ e, cell_of_row _ _ 3 _ _ _ e, cell_of_row _ _ 4 _ _ _ e, cell_of_row _ _ 5 _ _ _ e, cell_of_row _ _ 6 _ _ _ e⟩
/-- What stands at a place, or nought. -/
def agAt (l : List Rc) (s : ByteArray) (n : Int) : Ag := match findR l s n with | some r => r.ag | none => Ag.zero
open Classical in
/-- What Add makes of a table's records. -/
noncomputable def addR (ev : Int) (l : List Rc) (r : Rc) : List Rc := if rightR ev r = true then putR ⟨r.nm, r.st, mergeL [agAt l r.nm r.st, r.ag]⟩ l else l
noncomputable def addL (ev : Int) (l : List Rc) (rs : List Rc) : List Rc := rs.foldl (addR ev) l
def addN (ev : Int) (rs : List Rc) : Nat := rs.countP (rightR ev)
theorem addL_snoc (ev : Int) (l rs : List Rc) (r : Rc) : addL ev l (rs ++ [r]) = addR ev (addL ev l rs) r := by simp [addL, List.foldl_append]
theorem addN_snoc (ev : Int) (rs : List Rc) (r : Rc) : addN ev (rs ++ [r]) = addN ev rs + if rightR ev r = true then 1 else 0 := by
  unfold addN
  rw [List.countP_append, List.countP_singleton]
theorem putR_len {x : Rc} : ∀ {l : List Rc}, (putR x l).length ≤ l.length + 1
  | [] => by simp [putR]
  | y :: r => by
    unfold putR
    split
    · simp
    · split
      · simp
      · have := putR_len (x := x) (l := r)
        simp; omega
theorem addR_len {ev : Int} {l : List Rc} {r : Rc} : (addR ev l r).length ≤ l.length + 1 := by
  unfold addR
  split
  · exact putR_len
  · omega
theorem addL_len {ev : Int} {l : List Rc} : ∀ {rs : List Rc}, (addL ev l rs).length ≤ l.length + rs.length := by
  intro rs
  obtain ⟨m, rfl⟩ : ∃ m : List Rc, rs = m.reverse := ⟨rs.reverse, by simp⟩
  induction m with
  | nil => simp [addL]
  | cons a r ih =>
    rw [List.reverse_cons, addL_snoc]
    have := addR_len (ev := ev) (l := addL ev l r.reverse) (r := a)
    simp at ih ⊢; omega
end Go.Proofs.Ytcmlfepmgiikpaa
