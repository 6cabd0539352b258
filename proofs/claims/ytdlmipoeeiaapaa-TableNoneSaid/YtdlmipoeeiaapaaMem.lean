/-
  Slices as lists: 'Sl w A xs': the cells from address A on are xs, in the world w (whatever A, if there are none). Texts and numbers that came in; what a call has laid itself.
-/
import Derived.Test.YtdlmipoeeiaapaaRows
import Derived.WalkKit
import Derived.ProofKit
import Derived.SliceStrings
namespace Go.Proofs.Ytdlmipoeeiaapaa
open Go.ChangeShapes Go.WideShapes Go.RowKit

structure Sl (w : World) (A : Option Addr) (xs : List Value) : Prop where
  at_ : xs ≠ [] → ∃ b off, A = some ⟨b, off, none⟩ ∧ b < w.heap.size ∧ ∀ j u, xs[j]? = some u → w.cell? ⟨b, off + j, none⟩ = some u
theorem Sl.nil (w : World) (A : Option Addr) : Sl w A [] := ⟨fun h => absurd rfl h⟩
theorem Sl.get {w : World} {A : Option Addr} {xs : List Value} (h : Sl w A xs) {j : Nat} (hj : j < xs.length) : ∃ b off, A = some ⟨b, off, none⟩ ∧ b < w.heap.size ∧ w.cell? ⟨b, off + j, none⟩ = some xs[j] := by
  obtain ⟨b, off, e, hb, hc⟩ := h.at_ (fun e => by subst e; simp at hj)
  exact ⟨b, off, e, hb, hc j _ (List.getElem?_eq_getElem hj)⟩
theorem Sl.below {w w' : World} {A : Option Addr} {xs : List Value} (h : Sl w A xs) (hb : Below w.heap.size w w') : Sl w' A xs :=
  ⟨fun hne => by
    obtain ⟨b, off, e, hlt, hc⟩ := h.at_ hne
    exact ⟨b, off, e, Nat.lt_of_lt_of_le hlt hb.size, fun j u hu => (hb.cell (p := ⟨b, off + j, none⟩) hlt).trans (hc j u hu)⟩⟩
theorem Sl.alloc {w : World} {A : Option Addr} {xs : List Value} (h : Sl w A xs) (o : Obj) : Sl (w.alloc o) A xs := h.below ((Below.refl _ _).alloc (Nat.le_refl _) o)
theorem Sl.drew {w : World} {A : Option Addr} {xs : List Value} (h : Sl w A xs) : Sl w.drew A xs := h.below ((Below.refl _ _).drew)
/-- A block that has just been laid. -/
theorem Sl.new (w : World) (T : TypeId) (g : Nat) (xs : List Value) (cs : Array Value) (hg : g = w.heap.size) (hc : cs.toList = xs) : Sl (w.alloc (.cells cs T)) (some ⟨g, 0, none⟩) xs := by
  subst hg hc
  refine ⟨fun _ => ⟨_, _, rfl, by simp, fun j u hu => ?_⟩⟩
  have := cell_of_row (w.alloc (.cells cs T)) w.heap.size j cs T (0, 0) (heap_alloc_new w _)
  rw [Nat.zero_add, this]; simpa using hu

/-- A slice of n texts. -/
structure Strs (w : World) (A : Option Addr) (n : Nat) (ss : List ByteArray) : Prop where
  sl : Sl w A (ss.map Value.string)
  len : ss.length = n
  n_le : n ≤ maxLen
  size : ∀ s ∈ ss, s.size ≤ maxLen
theorem Strs.get {w : World} {A : Option Addr} {n : Nat} {ss : List ByteArray} (h : Strs w A n ss) {j : Nat} (hj : j < ss.length) : ∃ b off, A = some ⟨b, off, none⟩ ∧ b < w.heap.size ∧ w.cell? ⟨b, off + j, none⟩ = some (.string ss[j]) := by
  obtain ⟨b, off, e, hb, hc⟩ := h.sl.get (j := j) (by simpa using hj)
  exact ⟨b, off, e, hb, by simpa using hc⟩
theorem Strs.below {w w' : World} {A : Option Addr} {n : Nat} {ss : List ByteArray} (h : Strs w A n ss) (hb : Below w.heap.size w w') : Strs w' A n ss := ⟨h.sl.below hb, h.len, h.n_le, h.size⟩
theorem Strs.alloc {w : World} {A : Option Addr} {n : Nat} {ss : List ByteArray} (h : Strs w A n ss) (o : Obj) : Strs (w.alloc o) A n ss := ⟨h.sl.alloc o, h.len, h.n_le, h.size⟩
theorem Strs.new (w : World) (T : TypeId) (g n : Nat) (ss : List ByteArray) (cs : Array Value) (hg : g = w.heap.size) (hc : cs.toList = ss.map Value.string) (hn : ss.length = n) (hm : n ≤ maxLen) (hs : ∀ s ∈ ss, s.size ≤ maxLen) :
    Strs (w.alloc (.cells cs T)) (some ⟨g, 0, none⟩) n ss := ⟨Sl.new w T g _ cs hg hc, hn, hm, hs⟩
theorem Strs.hr {w : World} {A : Option Addr} {n : Nat} {ss : List ByteArray} (h : Strs w A n ss) : 0 < n → ∃ b off, A = some ⟨b, off, none⟩ ∧ ∀ i (hi : i < ss.length), w.cell? ⟨b, off + i, none⟩ = some (.string ss[i]) := by
  intro hn
  obtain ⟨b, off, e, _, hc⟩ := h.sl.at_ (fun e => by have := h.len; simp at e; subst e; simp at this; omega)
  exact ⟨b, off, e, fun i hi => hc i _ (by simp [hi])⟩

/-- A slice of n numbers. -/
structure Ints (w : World) (k : IntKind) (A : Option Addr) (n : Nat) (zs : List Int) : Prop where
  sl : Sl w A (zs.map (Value.int k))
  len : zs.length = n
  n_le : n ≤ maxLen
  wf : ∀ z ∈ zs, (Lit.int k z).wf = true
theorem Ints.get {w : World} {k : IntKind} {A : Option Addr} {n : Nat} {zs : List Int} (h : Ints w k A n zs) {j : Nat} (hj : j < zs.length) : ∃ b off, A = some ⟨b, off, none⟩ ∧ b < w.heap.size ∧ w.cell? ⟨b, off + j, none⟩ = some (.int k zs[j]) := by
  obtain ⟨b, off, e, hb, hc⟩ := h.sl.get (j := j) (by simpa using hj)
  exact ⟨b, off, e, hb, by simpa using hc⟩
theorem Ints.below {w w' : World} {k : IntKind} {A : Option Addr} {n : Nat} {zs : List Int} (h : Ints w k A n zs) (hb : Below w.heap.size w w') : Ints w' k A n zs := ⟨h.sl.below hb, h.len, h.n_le, h.wf⟩
theorem Ints.alloc {w : World} {k : IntKind} {A : Option Addr} {n : Nat} {zs : List Int} (h : Ints w k A n zs) (o : Obj) : Ints (w.alloc o) k A n zs := ⟨h.sl.alloc o, h.len, h.n_le, h.wf⟩
theorem Ints.new (w : World) (T : TypeId) (k : IntKind) (g n : Nat) (zs : List Int) (cs : Array Value) (hg : g = w.heap.size) (hc : cs.toList = zs.map (Value.int k)) (hn : zs.length = n) (hm : n ≤ maxLen) (hs : ∀ z ∈ zs, (Lit.int k z).wf = true) :
    Ints (w.alloc (.cells cs T)) k (some ⟨g, 0, none⟩) n zs := ⟨Sl.new w T g _ cs hg hc, hn, hm, hs⟩

theorem sl_of_add {w : World} {a : Addr} {xs : List Value} (h : ∀ i u, xs[i]? = some u → w.cell? (a.add i) = some u) : Sl w (some a) xs := by
  refine ⟨fun hne => ?_⟩
  obtain ⟨b, off, sp⟩ := a
  have h0 := h 0 (xs[0]'(List.length_pos_iff.2 hne)) (by rw [List.getElem?_eq_getElem (List.length_pos_iff.2 hne)])
  have hs : sp = none := by simpa [Addr.add] using World.cell?_spot h0
  subst hs
  refine ⟨b, off, rfl, ?_, fun j u hu => ?_⟩
  · have := block_lt_of_cell h0; simpa [Addr.add] using this
  · have := h j u hu
    unfold Addr.add at this
    split at this
    · next e => subst e; simpa using this
    · exact this
section
variable {H : Type} {enc : TypeId × Value → H} {P : Program} {w : World} {base : Nat} {spare : Nat → Bool} {held : Bool}
theorem strs_of_open {t e : TypeId} {A : Option Addr} {n c : Nat} {d : DataW H} {p : List MemPlace} (ht : P.underlying t = some (.slice e)) (he : P.underlying e = some .string) (hc : P.cellsOf e = 1)
    (h : DataW.Trod enc P w base spare held t (.slice A n c) d p) : ∃ ss, Strs w A n ss := by
  obtain ⟨fuel, hf⟩ := h
  rcases open_strings ht he hc hf with ⟨hcs, _⟩ | ⟨a, l, cap, ss, hcs, _, hl, hm, hz, _, hcell, hsz⟩
  · simp [Value.cells] at hcs
    obtain ⟨rfl, rfl, rfl⟩ := hcs
    exact ⟨[], Sl.nil _ _, rfl, by decide, by simp⟩
  · simp [Value.cells] at hcs
    obtain ⟨rfl, rfl, rfl⟩ := hcs
    have hle : n ≤ ss.length := by rw [hz]; split <;> omega
    refine ⟨ss.take n, sl_of_add (fun i u hu => ?_), by simp; omega, by omega, fun s hs => hsz s (List.mem_of_mem_take hs)⟩
    have hi : i < n ∧ i < ss.length := by
      have := (List.getElem?_eq_some_iff.1 hu).1; simp at this; omega
    rw [hcell i hi.2, ← hu]
    simp [hi.1, hi.2]
theorem ints_of_open {t e : TypeId} {k : IntKind} {A : Option Addr} {n c : Nat} {d : DataW H} {p : List MemPlace} (ht : P.underlying t = some (.slice e)) (he : P.underlying e = some (.int k)) (hc : P.cellsOf e = 1)
    (h : DataW.Trod enc P w base spare held t (.slice A n c) d p) : ∃ zs, Ints w k A n zs := by
  obtain ⟨fuel, hf⟩ := h
  rcases open_ints ht he hc hf with ⟨hcs, _⟩ | ⟨a, l, cap, zs, hcs, _, hl, hm, hz, _, hcell, hwf⟩
  · simp [Value.cells] at hcs
    obtain ⟨rfl, rfl, rfl⟩ := hcs
    exact ⟨[], Sl.nil _ _, rfl, by decide, by simp⟩
  · simp [Value.cells] at hcs
    obtain ⟨rfl, rfl, rfl⟩ := hcs
    have hle : n ≤ zs.length := by rw [hz]; split <;> omega
    refine ⟨zs.take n, sl_of_add (fun i u hu => ?_), by simp; omega, by omega, fun s hs => hwf s (List.mem_of_mem_take hs)⟩
    have hi : i < n ∧ i < zs.length := by
      have := (List.getElem?_eq_some_iff.1 hu).1; simp at this; omega
    rw [hcell i hi.2, ← hu]
    simp [hi.1, hi.2]
end
end Go.Proofs.Ytdlmipoeeiaapaa
