/-
  The package table: New, none, Len, Every; maps.DeleteFunc at its map; drop, Drop.
-/
import Derived.Test.YtdlmipoeeiaapaaTab
import Derived.Maps.OwnSet
import Derived.Maps.RangeWalk
import Derived.Laws.IdiomRangeMap
import Derived.Deep.LoopGhost
namespace Go.Proofs.Ytdlmipoeeiaapaa
open Go.RowKit Go.Maps

theorem ownsMap_tight {H : Type} {P : Program} {k : TypeId} {R : Value → Option (DataW H × List MemPlace)} {w : World} {b n : Nat} {D : DataW H} (h : w.ownsMap P k R b n D) : w.ownsMap P k R b (Maps.size D) D := by
  obtain ⟨es, clock, h1, h2, h3, h4⟩ := h
  refine ⟨es, clock, h1, h2, ?_, h4⟩
  rw [h4, Maps.size_eq, length_sorted]; simp
theorem grown_of_below {a b : World} (h : Below a.heap.size a b) (row : Option Nat) : a.grownBy b row := ⟨h.os, h.tape, h.output, h.size, fun i hi _ => h.block i hi⟩
theorem zero_ag (w : World) : (zeroValue 32).run Try.prog w = .ok Ag.zero.val w := by kernel_rfl
/-- The map of a table in memory. -/
structure MapAt (w : World) (mm : Nat) (l : List Rc) : Prop where
  own : ∃ D, w.ownsMap Try.prog 60 agElem mm l.length D ∧ Rep D l
theorem MapAt.mk' {w : World} {mm n : Nat} {D : DataW Unit} {l : List Rc} (h : w.ownsMap Try.prog 60 agElem mm n D) (hr : Rep D l) : MapAt w mm l :=
  ⟨D, by have := ownsMap_tight h; rwa [hr.size] at this, hr⟩
theorem MapAt.lt {w : World} {mm : Nat} {l : List Rc} (h : MapAt w mm l) : mm < w.heap.size := by obtain ⟨D, h1, _⟩ := h.own; exact h1.lt
theorem MapAt.grown {w w' : World} {mm : Nat} {l : List Rc} {row : Option Nat} (h : MapAt w mm l) (hg : w.grownBy w' row) (hne : some mm ≠ row) : MapAt w' mm l := by
  obtain ⟨D, h1, h2⟩ := h.own; exact ⟨D, h1.kept hg hne, h2⟩
theorem MapAt.below {w w' : World} {mm : Nat} {l : List Rc} (h : MapAt w mm l) (hb : Below w.heap.size w w') : MapAt w' mm l := h.grown (grown_of_below hb none) (by simp)
/-- A table in memory. -/
structure TableAt (w : World) (g mm : Nat) (ev : Int) (l : List Rc) : Prop where
  blk : w.heap[g]? = some (.cells #[.int .i64 ev, .map (some mm)] 55 (0, 0))
  map : MapAt w mm l
section
variable {w w' : World} {g mm : Nat} {ev : Int} {l : List Rc}
theorem TableAt.lt (h : TableAt w g mm ev l) : g < w.heap.size := lt_of_block h.blk
theorem TableAt.cells (h : TableAt w g mm ev l) : w.cell? ⟨g, 0, none⟩ = some (.int .i64 ev) ∧ w.cell? ⟨g, 1, none⟩ = some (.map (some mm)) :=
  ⟨cell_of_row w g 0 _ _ _ h.blk, cell_of_row w g 1 _ _ _ h.blk⟩
theorem TableAt.ne (h : TableAt w g mm ev l) : g ≠ mm := by
  intro e
  obtain ⟨D, ⟨es, c, h1, _⟩, _⟩ := h.map.own
  have := h.blk
  rw [e, h1] at this; cases this
theorem TableAt.below (h : TableAt w g mm ev l) (hb : Below w.heap.size w w') : TableAt w' g mm ev l := ⟨(hb.block g h.lt).trans h.blk, h.map.below hb⟩
theorem TableAt.grown (h : TableAt w g mm ev l) {row : Option Nat} (hg : w.grownBy w' row) (h1 : some g ≠ row) (h2 : some mm ≠ row) : TableAt w' g mm ev l :=
  ⟨(hg.block g h.lt h1).trans h.blk, h.map.grown hg h2⟩
/-- Its map has turned. -/
theorem TableAt.turned (h : TableAt w g mm ev l) (hg : w.grownBy w' (some mm)) {k : List Rc} (hm : MapAt w' mm k) : TableAt w' g mm ev k :=
  ⟨(hg.block g h.lt (fun e => h.ne (by injection e))).trans h.blk, hm⟩
end
set_option maxHeartbeats 1000000 in
theorem noneT_any {w : World} {g mm : Nat} {ev : Int} {l : List Rc} (h : TableAt w g mm ev l) :
    Calls Try.prog 30 #[.pointer (some ⟨g, 0, none⟩)] w fun e w' => e = .returned (.bool false) ∧ w = w' := by
  obtain ⟨c0, c1⟩ := h.cells
  have hq := fun W => run_eql_map_nil (P := Try.prog) W _ _ _ (some mm) Try.underlying53
  go_enter Try.func30, Try.ntmps30
  go_wp2
  go_ret
  exact ⟨rfl, rfl⟩
set_option maxHeartbeats 1000000 in
theorem newT_any (n : Int) (w : World) : Calls Try.prog 11 #[.int .i64 n] w fun e w' => ∃ g mm, e = .returned (.pointer (some ⟨g, 0, none⟩)) ∧ TableAt w' g mm (max n 1) [] ∧ Below w.heap.size w w' ∧ w.heap.size ≤ g ∧ w.heap.size ≤ mm := by
  have hmm := @run_makeMap Try.prog
  go_enter Try.func11, Try.ntmps11
  go_wp2
  go_ret
  refine ⟨w.heap.size + 1, w.heap.size, rfl, ⟨by have := heap_alloc_new (w.alloc (.map #[] 0)) (.cells #[.int .i64 (max n 1), .map (some w.heap.size)] 55); simpa using this, ?_⟩, ((Below.refl _ _).alloc (by omega) _).alloc (by simp) _, by omega, by omega⟩
  exact ⟨_, (World.ownsMap_made w _ _ _).alloc _, Rep.nil⟩
set_option maxHeartbeats 1000000 in
theorem lenT_any {w : World} {g mm : Nat} {ev : Int} {l : List Rc} (h : TableAt w g mm ev l) :
    Calls Try.prog 21 #[.pointer (some ⟨g, 0, none⟩)] w fun e w' => e = .returned (.int .i64 l.length) ∧ w = w' := by
  obtain ⟨c0, c1⟩ := h.cells
  obtain ⟨D, hown, hrep⟩ := h.map.own
  have hlen : ∀ ty, (Builtin.len_ #[53] ty #[.map (some mm)]).run Try.prog w = .ok (.int .i64 l.length) w := fun ty => by
    rw [hown.len Try.underlying53 ty, hrep.size]
  go_enter Try.func21, Try.ntmps21
  go_wp2
  go_ret
  exact ⟨rfl, rfl⟩
end Go.Proofs.Ytdlmipoeeiaapaa
