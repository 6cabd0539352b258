/-
  Several texts in one: Mem, App, Box.
-/
import Derived.Test.YtcglbbabfkbcbadGreatRows
import Derived.WalkKit
import Derived.ProofKit
import Derived.SliceStrings
import Derived.Maps.AppendAt
import Derived.Deep.AppendLies
import Derived.RegionTactic
import Derived.OwnWalk
import Derived.Below
import Derived.Laws.OwnMore
import Derived.Deep.Draws
import Derived.Laws.Rows
/- Slices as lists: 'Sl w A xs': the cells from address A on are xs, in the world w (whatever A, if there are none). Texts and numbers that came in; what a call has laid itself. -/
namespace Go.Proofs.YtcglbbabfkbcbadGreat
open Go.ChangeShapes Go.WideShapes Go.RowKit

structure Sl (w : World) (A : Option Addr) (xs : List Value) : Prop where
  at_ : xs ≠ [] → ∃ b off, A = some ⟨b, off, none⟩ ∧ b < w.heap.size ∧ ∀ j u, xs[j]? = some u → w.cell? ⟨b, off + j, none⟩ = some u
theorem Sl.nil (w : World) (A : Option Addr) : Sl w A [] := ⟨fun h => absurd rfl h⟩
theorem Sl.get {w : World} {A : Option Addr} {xs : List Value} (h : Sl w A xs) {j : Nat} (hj : j < xs.length) : ∃ b off, A = some ⟨b, off, none⟩ ∧ b < w.heap.size ∧ w.cell? ⟨b, off + j, none⟩ = some xs[j] := by
  obtain ⟨b, off, e, hb, hc⟩ := h.at_ (fun e => by subst e; simp at hj)
  exact ⟨b, off, e, hb, hc j _ (List.getElem?_eq_getElem hj)⟩
theorem Sl.below {w w' : World} {A : Option Addr} {xs : List Value} (h : Sl w A xs) (hb : Below w.heap.size w w') : Sl w' A xs :=
  ⟨fun hne => by
    obtain ⟨b, off, e, hlt, hc⟩ := h.at_ hne
    exact ⟨b, off, e, Nat.lt_of_lt_of_le hlt hb.size, fun j u hu => (hb.cell (p := ⟨b, off + j, none⟩) hlt).trans (hc j u hu)⟩⟩
theorem Sl.alloc {w : World} {A : Option Addr} {xs : List Value} (h : Sl w A xs) (o : Obj) : Sl (w.alloc o) A xs := h.below ((Below.refl _ _).alloc (Nat.le_refl _) o)
theorem Sl.drew {w : World} {A : Option Addr} {xs : List Value} (h : Sl w A xs) : Sl w.drew A xs := h.below ((Below.refl _ _).drew)
/-- A block that has just been laid. -/
theorem Sl.new (w : World) (T : TypeId) (g : Nat) (xs : List Value) (cs : Array Value) (hg : g = w.heap.size) (hc : cs.toList = xs) : Sl (w.alloc (.cells cs T)) (some ⟨g, 0, none⟩) xs := by
  subst hg hc
  refine ⟨fun _ => ⟨_, _, rfl, by simp, fun j u hu => ?_⟩⟩
  have := cell_of_row (w.alloc (.cells cs T)) w.heap.size j cs T (0, 0) (heap_alloc_new w _)
  rw [Nat.zero_add, this]; simpa using hu

/-- A slice of n texts. -/
structure Strs (w : World) (A : Option Addr) (n : Nat) (ss : List ByteArray) : Prop where
  sl : Sl w A (ss.map Value.string)
  len : ss.length = n
  n_le : n ≤ maxLen
  size : ∀ s ∈ ss, s.size ≤ maxLen
theorem Strs.get {w : World} {A : Option Addr} {n : Nat} {ss : List ByteArray} (h : Strs w A n ss) {j : Nat} (hj : j < ss.length) : ∃ b off, A = some ⟨b, off, none⟩ ∧ b < w.heap.size ∧ w.cell? ⟨b, off + j, none⟩ = some (.string ss[j]) := by
  obtain ⟨b, off, e, hb, hc⟩ := h.sl.get (j := j) (by simpa using hj)
  exact ⟨b, off, e, hb, by simpa using hc⟩
theorem Strs.below {w w' : World} {A : Option Addr} {n : Nat} {ss : List ByteArray} (h : Strs w A n ss) (hb : Below w.heap.size w w') : Strs w' A n ss := ⟨h.sl.below hb, h.len, h.n_le, h.size⟩
theorem Strs.alloc {w : World} {A : Option Addr} {n : Nat} {ss : List ByteArray} (h : Strs w A n ss) (o : Obj) : Strs (w.alloc o) A n ss := ⟨h.sl.alloc o, h.len, h.n_le, h.size⟩
theorem Strs.new (w : World) (T : TypeId) (g n : Nat) (ss : List ByteArray) (cs : Array Value) (hg : g = w.heap.size) (hc : cs.toList = ss.map Value.string) (hn : ss.length = n) (hm : n ≤ maxLen) (hs : ∀ s ∈ ss, s.size ≤ maxLen) :
    Strs (w.alloc (.cells cs T)) (some ⟨g, 0, none⟩) n ss := ⟨Sl.new w T g _ cs hg hc, hn, hm, hs⟩
theorem Strs.hr {w : World} {A : Option Addr} {n : Nat} {ss : List ByteArray} (h : Strs w A n ss) : 0 < n → ∃ b off, A = some ⟨b, off, none⟩ ∧ ∀ i (hi : i < ss.length), w.cell? ⟨b, off + i, none⟩ = some (.string ss[i]) := by
  intro hn
  obtain ⟨b, off, e, _, hc⟩ := h.sl.at_ (fun e => by have := h.len; simp at e; subst e; simp at this; omega)
  exact ⟨b, off, e, fun i hi => hc i _ (by simp [hi])⟩

/-- A slice of n numbers. -/
structure Ints (w : World) (k : IntKind) (A : Option Addr) (n : Nat) (zs : List Int) : Prop where
  sl : Sl w A (zs.map (Value.int k))
  len : zs.length = n
  n_le : n ≤ maxLen
  wf : ∀ z ∈ zs, (Lit.int k z).wf = true
theorem Ints.get {w : World} {k : IntKind} {A : Option Addr} {n : Nat} {zs : List Int} (h : Ints w k A n zs) {j : Nat} (hj : j < zs.length) : ∃ b off, A = some ⟨b, off, none⟩ ∧ b < w.heap.size ∧ w.cell? ⟨b, off + j, none⟩ = some (.int k zs[j]) := by
  obtain ⟨b, off, e, hb, hc⟩ := h.sl.get (j := j) (by simpa using hj)
  exact ⟨b, off, e, hb, by simpa using hc⟩
theorem Ints.below {w w' : World} {k : IntKind} {A : Option Addr} {n : Nat} {zs : List Int} (h : Ints w k A n zs) (hb : Below w.heap.size w w') : Ints w' k A n zs := ⟨h.sl.below hb, h.len, h.n_le, h.wf⟩
theorem Ints.alloc {w : World} {k : IntKind} {A : Option Addr} {n : Nat} {zs : List Int} (h : Ints w k A n zs) (o : Obj) : Ints (w.alloc o) k A n zs := ⟨h.sl.alloc o, h.len, h.n_le, h.wf⟩
theorem Ints.new (w : World) (T : TypeId) (k : IntKind) (g n : Nat) (zs : List Int) (cs : Array Value) (hg : g = w.heap.size) (hc : cs.toList = zs.map (Value.int k)) (hn : zs.length = n) (hm : n ≤ maxLen) (hs : ∀ z ∈ zs, (Lit.int k z).wf = true) :
    Ints (w.alloc (.cells cs T)) k (some ⟨g, 0, none⟩) n zs := ⟨Sl.new w T g _ cs hg hc, hn, hm, hs⟩

theorem sl_of_add {w : World} {a : Addr} {xs : List Value} (h : ∀ i u, xs[i]? = some u → w.cell? (a.add i) = some u) : Sl w (some a) xs := by
  refine ⟨fun hne => ?_⟩
  obtain ⟨b, off, sp⟩ := a
  have h0 := h 0 (xs[0]'(List.length_pos_iff.2 hne)) (by rw [List.getElem?_eq_getElem (List.length_pos_iff.2 hne)])
  have hs : sp = none := by simpa [Addr.add] using World.cell?_spot h0
  subst hs
  refine ⟨b, off, rfl, ?_, fun j u hu => ?_⟩
  · have := block_lt_of_cell h0; simpa [Addr.add] using this
  · have := h j u hu
    unfold Addr.add at this
    split at this
    · next e => subst e; simpa using this
    · exact this
section
variable {H : Type} {enc : TypeId × Value → H} {P : Program} {w : World} {base : Nat} {spare : Nat → Bool} {held : Bool}
theorem strs_of_open {t e : TypeId} {A : Option Addr} {n c : Nat} {d : DataW H} {p : List MemPlace} (ht : P.underlying t = some (.slice e)) (he : P.underlying e = some .string) (hc : P.cellsOf e = 1)
    (h : DataW.Trod enc P w base spare held t (.slice A n c) d p) : ∃ ss, Strs w A n ss := by
  obtain ⟨fuel, hf⟩ := h
  rcases open_strings ht he hc hf with ⟨hcs, _⟩ | ⟨a, l, cap, ss, hcs, _, hl, hm, hz, _, hcell, hsz⟩
  · simp [Value.cells] at hcs
    obtain ⟨rfl, rfl, rfl⟩ := hcs
    exact ⟨[], Sl.nil _ _, rfl, by decide, by simp⟩
  · simp [Value.cells] at hcs
    obtain ⟨rfl, rfl, rfl⟩ := hcs
    have hle : n ≤ ss.length := by rw [hz]; split <;> omega
    refine ⟨ss.take n, sl_of_add (fun i u hu => ?_), by simp; omega, by omega, fun s hs => hsz s (List.mem_of_mem_take hs)⟩
    have hi : i < n ∧ i < ss.length := by
      have := (List.getElem?_eq_some_iff.1 hu).1; simp at this; omega
    rw [hcell i hi.2, ← hu]
    simp [hi.1, hi.2]
theorem ints_of_open {t e : TypeId} {k : IntKind} {A : Option Addr} {n c : Nat} {d : DataW H} {p : List MemPlace} (ht : P.underlying t = some (.slice e)) (he : P.underlying e = some (.int k)) (hc : P.cellsOf e = 1)
    (h : DataW.Trod enc P w base spare held t (.slice A n c) d p) : ∃ zs, Ints w k A n zs := by
  obtain ⟨fuel, hf⟩ := h
  rcases open_ints ht he hc hf with ⟨hcs, _⟩ | ⟨a, l, cap, zs, hcs, _, hl, hm, hz, _, hcell, hwf⟩
  · simp [Value.cells] at hcs
    obtain ⟨rfl, rfl, rfl⟩ := hcs
    exact ⟨[], Sl.nil _ _, rfl, by decide, by simp⟩
  · simp [Value.cells] at hcs
    obtain ⟨rfl, rfl, rfl⟩ := hcs
    have hle : n ≤ zs.length := by rw [hz]; split <;> omega
    refine ⟨zs.take n, sl_of_add (fun i u hu => ?_), by simp; omega, by omega, fun s hs => hwf s (List.mem_of_mem_take hs)⟩
    have hi : i < n ∧ i < zs.length := by
      have := (List.getElem?_eq_some_iff.1 hu).1; simp at this; omega
    rw [hcell i hi.2, ← hu]
    simp [hi.1, hi.2]
end
end Go.Proofs.YtcglbbabfkbcbadGreat
/- append onto a row of the call's own, whatever the source: nil, empty or not. -/
namespace Go.Proofs.YtcglbbabfkbcbadGreat
open Go.RowKit

section
variable {P : Program} (w : World)
theorem run_append_of_nil (base : Nat) (t ty e : TypeId) (i : TypeInfo) (size : Nat) (ht : P.underlying t = some (.slice e)) (hi : P.info? e = some i)
    (v : Value) (n : Nat) (xs : List Value) (hown : w.ownsRow base e size v n xs) (c : Nat) : (Builtin.append_ #[t, t] ty #[v, .slice none 0 c]).run P w = .ok v w := by
  rcases hown.2 with ⟨rfl, rfl⟩ | ⟨g, cap, cur, rfl, _, _, hnc, _⟩
  · simp [Builtin.append_, run_underlying ht, sizeOf, typeInfo, hi, Builtin.lenOf, Builtin.firstCells]
  · simp [Builtin.append_, run_underlying ht, sizeOf, typeInfo, hi, Builtin.lenOf, Builtin.firstCells, hnc, storeCells]
theorem sl_add {A : Addr} {news : List Value} (h : Sl w (some A) news) : ∀ j u, news[j]? = some u → w.cell? (A.add j) = some u := by
  intro j u hu
  obtain ⟨b, off, e, _, hc⟩ := h.at_ (fun e => by rw [e] at hu; simp at hu)
  cases e
  have : (⟨b, off, none⟩ : Addr).add j = ⟨b, off + j, none⟩ := by
    unfold Addr.add
    split
    · next e => subst e; rfl
    · rfl
  rw [this]
  exact hc j u hu
theorem run_append_sl (base : Nat) (t ty e : TypeId) (i : TypeInfo) (z : Value) (size bytes : Nat) (ht : P.underlying t = some (.slice e)) (hi : P.info? e = some i) (hz : i.zero = some z)
    (hsize : i.size = size) (hby : i.bytes = bytes) (hzs : z.cells.size = size) (hsz : 0 < size)
    (v : Value) (n : Nat) (xs : List Value) (hown : w.ownsRow base e size v n xs)
    (A : Option Addr) (m c : Nat) (news : List Value) (hl : news.length = m * size) (hr : Sl w A news) (h1 : ∀ u ∈ news, u.oneCell' = true)
    (h63 : n + m ≤ maxLen) (hbytes : (n + m) * bytes ≤ 140737488355328) (hbase : base ≤ w.heap.size) :
    ∃ v' w', (Builtin.append_ #[t, t] ty #[v, .slice A m c]).run P w = .ok v' w' ∧ w'.ownsRow base e size v' (n + m) (xs ++ news) ∧ w.grownBy w' v.ownBlock ∧
      (v'.ownBlock = v.ownBlock ∨ v'.ownBlock = some w.heap.size) := by
  rcases A with _ | ad
  · have hn : news = [] := by
      rcases news with _ | ⟨a, r⟩
      · rfl
      · obtain ⟨b, off, e, _⟩ := hr.at_ (by simp)
        cases e
    subst hn
    have hm : m = 0 := by
      rcases Nat.eq_zero_or_pos m with h0 | h0
      · exact h0
      · have := Nat.mul_pos h0 hsz
        simp at hl; omega
    subst hm
    exact ⟨v, w, run_append_of_nil w base t ty e i size ht hi v n xs hown c, by simpa using hown, World.grownBy.refl w _, .inl rfl⟩
  · obtain ⟨v', w', hrun, h2, h3, _, h5⟩ := run_append_own_at (P := P) w base t ty e i z size bytes ht hi hz hsize hby hzs hsz v n xs hown ad m c news hl (sl_add w hr) h1 h63 hbytes hbase
    exact ⟨v', w', hrun, h2, h3, h5⟩
theorem wp_append_sl {o : Oper} {a : Act} {K : Act → World → Prop} {Q : Exit → Act → World → Prop} (s x : Operand) (t : TypeId)
    (ho : o.op = .call { callee := .builtin .append, args := #[s, x], argTypes := #[t, t] })
    (base : Nat) (e : TypeId) (i : TypeInfo) (z : Value) (size bytes : Nat) (ht : P.underlying t = some (.slice e)) (hi : P.info? e = some i) (hz : i.zero = some z)
    (hsize : i.size = size) (hby : i.bytes = bytes) (hzs : z.cells.size = size) (hsz : 0 < size)
    (v : Value) (n : Nat) (xs : List Value) (hs : a.eval s = v) (hown : w.ownsRow base e size v n xs)
    (A : Option Addr) (m c : Nat) (news : List Value) (hx : a.eval x = .slice A m c) (hl : news.length = m * size) (hr : Sl w A news) (h1 : ∀ u ∈ news, u.oneCell' = true)
    (h63 : n + m ≤ maxLen) (hbytes : (n + m) * bytes ≤ 140737488355328) (hbase : base ≤ w.heap.size)
    (h : ∀ v' w', w'.ownsRow base e size v' (n + m) (xs ++ news) → w.grownBy w' v.ownBlock → (v'.ownBlock = v.ownBlock ∨ v'.ownBlock = some w.heap.size) → K (a.put o.dst v') w') : o.wp P a w K Q := by
  obtain ⟨v', w', hrun, h2, h3, h4⟩ := run_append_sl (P := P) w base t o.type e i z size bytes ht hi hz hsize hby hzs hsz v n xs hown A m c news hl hr h1 h63 hbytes hbase
  unfold Oper.wp execOp
  simp only [ho, resolve, invoke, builtin, Sem.run_bind, Sem.run_pure, Result.andThen_ok, List.map_toArray, List.map_cons, List.map_nil, hs, hx, hrun]
  exact h v' w' h2 h3 h4
theorem wpList_append_sl {ops : Array Oper} {rest : List Oper} {o : Oper} {a : Act} {Q : Exit → Act → World → Prop} (hgd : o.guard = none) (s x : Operand) (t : TypeId)
    (ho : o.op = .call { callee := .builtin .append, args := #[s, x], argTypes := #[t, t] })
    (base : Nat) (e : TypeId) (i : TypeInfo) (z : Value) (size bytes : Nat) (ht : P.underlying t = some (.slice e)) (hi : P.info? e = some i) (hz : i.zero = some z)
    (hsize : i.size = size) (hby : i.bytes = bytes) (hzs : z.cells.size = size) (hsz : 0 < size)
    (v : Value) (n : Nat) (xs : List Value) (hs : a.eval s = v) (hown : w.ownsRow base e size v n xs)
    (A : Option Addr) (m c : Nat) (news : List Value) (hx : a.eval x = .slice A m c) (hl : news.length = m * size) (hr : Sl w A news) (h1 : ∀ u ∈ news, u.oneCell' = true)
    (h63 : n + m ≤ maxLen) (hbytes : (n + m) * bytes ≤ 140737488355328) (hbase : base ≤ w.heap.size)
    (h : ∀ v' w', w'.ownsRow base e size v' (n + m) (xs ++ news) → w.grownBy w' v.ownBlock → (v'.ownBlock = v.ownBlock ∨ v'.ownBlock = some w.heap.size) → wpList P ops Q rest (a.put o.dst v') w') : wpList P ops Q (o :: rest) a w :=
  wpList_plain hgd fun _ hK => wp_append_sl w s x t ho base e i z size bytes ht hi hz hsize hby hzs hsz v n xs hs hown A m c news hx hl hr h1 h63 hbytes hbase fun v' w' h2 h3 h4 => hK _ _ (h v' w' h2 h3 h4)
theorem step_append_sl {ops : Array Oper} {o : Oper} {a : Act} {K : Act → World → Prop} {Q : Exit → Act → World → Prop} {E : Prop} (hgd : o.guard = none) (s x : Operand) (t : TypeId)
    (ho : o.op = .call { callee := .builtin .append, args := #[s, x], argTypes := #[t, t] })
    (base : Nat) (e : TypeId) (i : TypeInfo) (z : Value) (size bytes : Nat) (ht : P.underlying t = some (.slice e)) (hi : P.info? e = some i) (hz : i.zero = some z)
    (hsize : i.size = size) (hby : i.bytes = bytes) (hzs : z.cells.size = size) (hsz : 0 < size)
    (v : Value) (n : Nat) (xs : List Value) (hs : a.eval s = v) (hown : w.ownsRow base e size v n xs)
    (A : Option Addr) (m c : Nat) (news : List Value) (hx : a.eval x = .slice A m c) (hl : news.length = m * size) (hr : Sl w A news) (h1 : ∀ u ∈ news, u.oneCell' = true)
    (h63 : n + m ≤ maxLen) (hbytes : (n + m) * bytes ≤ 140737488355328) (hbase : base ≤ w.heap.size)
    (h : ∀ v' w', w'.ownsRow base e size v' (n + m) (xs ++ news) → w.grownBy w' v.ownBlock → (v'.ownBlock = v.ownBlock ∨ v'.ownBlock = some w.heap.size) → K (a.put o.dst v') w') :
    if Region.wanted o (yielded ops a.tmps) = true then Oper.wp P o a w K Q else E := by
  have hw : Region.wanted o (yielded ops a.tmps) = true := by simp [Region.wanted, hgd]
  rw [if_pos hw]
  exact wp_append_sl w s x t ho base e i z size bytes ht hi hz hsize hby hzs hsz v n xs hs hown A m c news hx hl hr h1 h63 hbytes hbase h
end
end Go.Proofs.YtcglbbabfkbcbadGreat
/- A block of the call's own that is known whole. -/
namespace Go.Proofs.YtcglbbabfkbcbadGreat
open Go.RowKit

/-- Block g is just these cells. -/
structure Bx (w : World) (g : Nat) (T : TypeId) (cs : Array Value) : Prop where
  blk : w.heap[g]? = some (.cells cs T (0, 0))
section
variable {w w' : World} {g : Nat} {T : TypeId} {cs : Array Value}
theorem Bx.lt (h : Bx w g T cs) : g < w.heap.size := lt_of_block h.blk
theorem Bx.cell (h : Bx w g T cs) (i : Nat) : w.cell? ⟨g, i, none⟩ = cs[i]? := cell_of_row w g i cs T (0, 0) h.blk
theorem Bx.at_ (h : Bx w g T cs) (i : Nat) {v : Value} (e : cs[i]? = some v) : w.cell? ⟨g, i, none⟩ = some v := (h.cell i).trans e
theorem Bx.free (h : Bx w g T cs) (i : Nat) : w.frozen? ⟨g, i, none⟩ = false := frozen_of_row w g i _ _ h.blk
theorem Bx.new (w : World) (T : TypeId) (cs : Array Value) : Bx (w.alloc (.cells cs T)) w.heap.size T cs := ⟨heap_alloc_new w _⟩
theorem Bx.below (h : Bx w g T cs) (hb : Below w.heap.size w w') : Bx w' g T cs := ⟨(hb.block g h.lt).trans h.blk⟩
theorem Bx.alloc (h : Bx w g T cs) (o : Obj) : Bx (w.alloc o) g T cs := h.below ((Below.refl _ _).alloc (Nat.le_refl _) o)
theorem Bx.drew (h : Bx w g T cs) : Bx w.drew g T cs := h.below ((Below.refl _ _).drew)
theorem Bx.set (h : Bx w g T cs) (i : Nat) (u : Value) : Bx (w.setCell ⟨g, i, none⟩ u) g T (cs.setIfInBounds i u) := ⟨heap_setCell_same w g i cs T u h.blk⟩
theorem Bx.other (h : Bx w g T cs) {p : Addr} (hp : g ≠ p.block) (u : Value) : Bx (w.setCell p u) g T cs := ⟨(heap_setCell_other w p g u hp).trans h.blk⟩
theorem Bx.grown (h : Bx w g T cs) {row : Option Nat} (hg : w.grownBy w' row) (hne : some g ≠ row) : Bx w' g T cs := ⟨(hg.block g h.lt hne).trans h.blk⟩
end
end Go.Proofs.YtcglbbabfkbcbadGreat
