/-
  Slices of records; what Add makes; the map, looked up and stored into.
-/
import Derived.Test.YtdlmipoeeiaapaaTableOn
import Derived.Maps.OwnOps
namespace Go.Proofs.Ytdlmipoeeiaapaa
open Go.RowKit Go.Maps

/-- A slice of records. -/
structure Rcs (w : World) (A : Option Addr) (n : Nat) (l : List Rc) : Prop where
  sl : Sl w A (l.flatMap Rc.cells)
  len : l.length = n
  n_le : n ≤ maxLen
  nm : ∀ r ∈ l, r.nm.size ≤ maxLen
  st : ∀ r ∈ l, (Lit.int .i64 r.st).wf = true
  ok : ∀ r ∈ l, r.ag.Ok
theorem flatR_get (l : List Rc) (j : Nat) (hj : j < l.length) (q : Nat) (hq : q < 7) : (l.flatMap Rc.cells)[j * 7 + q]? = l[j].cells[q]? := by
  induction l generalizing j with
  | nil => simp at hj
  | cons a r ih =>
    rw [List.flatMap_cons]
    cases j with
    | zero =>
      rw [List.getElem?_append_left (by show 0 * 7 + q < 7; omega)]; simp
    | succ j =>
      rw [List.getElem?_append_right (by show 7 ≤ _; omega)]
      have : (j + 1) * 7 + q - a.cells.length = j * 7 + q := by show (j + 1) * 7 + q - 7 = _; omega
      rw [this, ih j (by simp at hj; omega)]; rfl
structure RcCells (w : World) (b off : Nat) (r : Rc) : Prop where
  c0 : w.cell? ⟨b, off, none⟩ = some (.string r.nm)
  c1 : w.cell? ⟨b, off + 1, none⟩ = some (.int .i64 r.st)
  c2 : w.cell? ⟨b, off + 2, none⟩ = some (.int .i64 r.ag.c)
  c3 : w.cell? ⟨b, off + 3, none⟩ = some (.int .i64 r.ag.hi)
  c4 : w.cell? ⟨b, off + 4, none⟩ = some (.int .u64 r.ag.lo)
  c5 : w.cell? ⟨b, off + 5, none⟩ = some (.int .i64 r.ag.mn)
  c6 : w.cell? ⟨b, off + 6, none⟩ = some (.int .i64 r.ag.mx)
theorem Rcs.get {w : World} {A : Option Addr} {n : Nat} {l : List Rc} (h : Rcs w A n l) {j : Nat} (hj : j < l.length) : ∃ b off, A = some ⟨b, off, none⟩ ∧ b < w.heap.size ∧ RcCells w b (off + j * 7) l[j] := by
  have hne : l.flatMap Rc.cells ≠ [] := by
    cases l with
    | nil => simp at hj
    | cons a r => simp [Rc.cells]
  obtain ⟨b, off, e, hb, hc⟩ := h.sl.at_ hne
  have g := fun q hq => flatR_get l j hj q hq
  have c0 := hc (j * 7 + 0) _ (g 0 (by omega))
  have c1 := hc (j * 7 + 1) _ (g 1 (by omega))
  have c2 := hc (j * 7 + 2) _ (g 2 (by omega))
  have c3 := hc (j * 7 + 3) _ (g 3 (by omega))
  have c4 := hc (j * 7 + 4) _ (g 4 (by omega))
  have c5 := hc (j * 7 + 5) _ (g 5 (by omega))
  have c6 := hc (j * 7 + 6) _ (g 6 (by omega))
  rw [← Nat.add_assoc] at c1 c2 c3 c4 c5 c6
  exact ⟨b, off, e, hb, c0, c1, c2, c3, c4, c5, c6⟩
theorem RcCells.keep {w w' : World} {b off : Nat} {r : Rc} {row : Option Nat} (h : RcCells w b off r) (hg : w.grownBy w' row) (hne : some b ≠ row) : RcCells w' b off r :=
  ⟨hg.cell h.c0 hne, hg.cell h.c1 hne, hg.cell h.c2 hne, hg.cell h.c3 hne, hg.cell h.c4 hne, hg.cell h.c5 hne, hg.cell h.c6 hne⟩
theorem RcCells.new (w : World) (r : Rc) : RcCells (w.alloc (.cells #[.string r.nm, .int .i64 r.st, .int .i64 r.ag.c, .int .i64 r.ag.hi, .int .u64 r.ag.lo, .int .i64 r.ag.mn, .int .i64 r.ag.mx] 34)) w.heap.size 0 r := by
  have e := heap_alloc_new w (.cells #[.string r.nm, .int .i64 r.st, .int .i64 r.ag.c, .int .i64 r.ag.hi, .int .u64 r.ag.lo, .int .i64 r.ag.mn, .int .i64 r.ag.mx] 34)
  exact ⟨cell_of_row _ _ 0 _ _ _ e, cell_of_row _ _ 1 _ _ _ e, cell_of_row _ _ 2 _ _ _ e, cell_of_row _ _ 3 _ _ _ e, cell_of_row _ _ 4 _ _ _ e, cell_of_row _ _ 5 _ _ _ e, cell_of_row _ _ 6 _ _ _ e⟩
/-- No cell of a map's block is a value. -/
theorem MapAt.nocell {w : World} {mm : Nat} {l : List Rc} (h : MapAt w mm l) (o : Nat) : w.cell? ⟨mm, o, none⟩ = none := by
  obtain ⟨D, ⟨es, c, h1, _⟩, _⟩ := h.own
  simp [World.cell?, h1]
theorem Rcs.keep {w w' : World} {A : Option Addr} {n mm : Nat} {l k : List Rc} (h : Rcs w A n l) (hm : MapAt w mm k) (hg : w.grownBy w' (some mm)) : Rcs w' A n l := by
  refine ⟨⟨fun hne => ?_⟩, h.len, h.n_le, h.nm, h.st, h.ok⟩
  obtain ⟨b, off, e, hb, hc⟩ := h.sl.at_ hne
  have hbm : b ≠ mm := by
    intro e2
    subst e2
    cases hx : l.flatMap Rc.cells with
    | nil => exact hne hx
    | cons u r =>
      have := hc 0 u (by rw [hx]; rfl)
      rw [hm.nocell] at this; cases this
  exact ⟨b, off, e, Nat.lt_of_lt_of_le hb hg.size, fun j u hu => hg.cell (hc j u hu) (fun e3 => hbm (by injection e3))⟩

/-- What stands at a place, or nought. -/
def agAt (l : List Rc) (s : ByteArray) (n : Int) : Ag := match findR l s n with | some r => r.ag | none => Ag.zero
open Classical in
/-- What Add makes of a table's records. -/
noncomputable def addR (ev : Int) (l : List Rc) (r : Rc) : List Rc := if rightR ev r = true then putR ⟨r.nm, r.st, mergeL [agAt l r.nm r.st, r.ag]⟩ l else l
noncomputable def addL (ev : Int) (l : List Rc) (rs : List Rc) : List Rc := rs.foldl (addR ev) l
def addN (ev : Int) (rs : List Rc) : Nat := rs.countP (rightR ev)
theorem addL_snoc (ev : Int) (l rs : List Rc) (r : Rc) : addL ev l (rs ++ [r]) = addR ev (addL ev l rs) r := by simp [addL, List.foldl_append]
theorem addN_snoc (ev : Int) (rs : List Rc) (r : Rc) : addN ev (rs ++ [r]) = addN ev rs + if rightR ev r = true then 1 else 0 := by
  unfold addN
  rw [List.countP_append, List.countP_singleton]
theorem putR_len {x : Rc} : ∀ {l : List Rc}, (putR x l).length ≤ l.length + 1
  | [] => by simp [putR]
  | y :: r => by
    unfold putR
    split
    · simp
    · split
      · simp
      · have := putR_len (x := x) (l := r)
        simp; omega
theorem addR_len {ev : Int} {l : List Rc} {r : Rc} : (addR ev l r).length ≤ l.length + 1 := by
  unfold addR
  split
  · exact putR_len
  · omega
theorem addL_len {ev : Int} {l : List Rc} : ∀ {rs : List Rc}, (addL ev l rs).length ≤ l.length + rs.length := by
  intro rs
  obtain ⟨m, rfl⟩ : ∃ m : List Rc, rs = m.reverse := ⟨rs.reverse, by simp⟩
  induction m with
  | nil => simp [addL]
  | cons a r ih =>
    rw [List.reverse_cons, addL_snoc]
    have := addR_len (ev := ev) (l := addL ev l r.reverse) (r := a)
    simp at ih ⊢; omega
theorem MapAt.look {w : World} {mm : Nat} {l : List Rc} (h : MapAt w mm l) {s : ByteArray} {n : Int} (hs : s.size ≤ maxLen) (hn : (Lit.int .i64 n).wf = true) :
    (Instr.lookup 53 (.map (some mm)) (placeV s n) false).run Try.prog w = .ok (agAt l s n).val w := by
  obtain ⟨D, hown, hrep⟩ := h.own
  obtain ⟨v, ps, hrun, hv⟩ := hown.lookup place_law Try.underlying53 (zero_ag w) (agElem_mk Ag.zero) (key_mk hs hn)
  rw [hrun]
  rw [hrep.at_ hs hn] at hv
  obtain ⟨a, rfl, e⟩ := agElem_inv hv
  unfold agAt
  cases hf : findR l s n with
  | none =>
    rw [hf] at e
    rw [← agD_inj (Prod.mk.inj e).1]
  | some r =>
    rw [hf] at e
    rw [← agD_inj (Prod.mk.inj e).1]
theorem MapAt.fit {w : World} {mm : Nat} {l : List Rc} (h : MapAt w mm l) (s : ByteArray) (n : Int) : (agAt l s n).Fit := by
  obtain ⟨D, hown, hrep⟩ := h.own
  unfold agAt
  cases hf : findR l s n with
  | none => exact Ag.Fit.zero
  | some r => exact (hrep.ok r (findR_some hf).1).ag
theorem MapAt.store {w : World} {mm : Nat} {l : List Rc} (h : MapAt w mm l) {x : Rc} (hx : x.Ok) (hl : l.length < 1000000) :
    ∃ w', (Instr.mapUpdate 53 (.map (some mm)) (placeV x.nm x.st) x.ag.val).run Try.prog w = .ok () w' ∧ MapAt w' mm (putR x l) ∧ w.grownBy w' (some mm) := by
  obtain ⟨D, hown, hrep⟩ := h.own
  obtain ⟨w', hrun, r1, r2⟩ := hown.store place_law Try.underlying53 (by unfold maxLen; omega) (key_mk hx.nm hx.st) (agElem_mk x.ag)
  exact ⟨w', hrun, MapAt.mk' r1 (hrep.put hx), r2.grown⟩
end Go.Proofs.Ytdlmipoeeiaapaa
