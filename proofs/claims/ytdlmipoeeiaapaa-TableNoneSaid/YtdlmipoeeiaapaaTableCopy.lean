/-
  Copy.
-/
import Derived.Test.YtdlmipoeeiaapaaTableFind
import Derived.Test.YtdlmipoeeiaapaaShelf
import Derived.Deep.RegionWith
namespace Go.Proofs.Ytdlmipoeeiaapaa
open Go.RowKit Go.Maps Go.Shelf

theorem MapAt.drew {w : World} {mm : Nat} {l : List Rc} (h : MapAt w mm l) : MapAt w.drew mm l := h.below ((Below.refl _ _).drew)
theorem TableAt.drew {w : World} {g mm : Nat} {ev : Int} {l : List Rc} (h : TableAt w g mm ev l) : TableAt w.drew g mm ev l := h.below ((Below.refl _ _).drew)
theorem clone_any {w : World} {mm : Nat} {l : List Rc} (h : MapAt w mm l) :
    Calls Try.prog 44 #[.map (some mm)] w fun e w' => e = .returned (.map (some w.heap.size)) ∧ MapAt w' w.heap.size l ∧ Below w.heap.size w w' := by
  obtain ⟨D, hown, hrep⟩ := h.own
  refine (AnyW.maps_Clone_owns Try.cloneM 60 agElem mm l.length D w hown).mono ?_
  rintro e w' ⟨rfl, h1, _, hb⟩
  exact ⟨rfl, MapAt.mk' h1 hrep, hb⟩
theorem table_mk {w : World} {mm : Nat} {ev : Int} {l : List Rc} (h : MapAt w mm l) : TableAt (w.alloc (.cells #[.int .i64 ev, .map (some mm)] 55)) w.heap.size mm ev l :=
  ⟨heap_alloc_new w _, h.below ((Below.refl _ _).alloc (Nat.le_refl _) _)⟩
set_option maxRecDepth 100000 in
set_option maxHeartbeats 2000000 in
theorem copyT_any {w : World} {g mm : Nat} {ev : Int} {l : List Rc} (h : TableAt w g mm ev l) :
    Calls Try.prog 24 #[.pointer (some ⟨g, 0, none⟩)] w fun e w' => ∃ g2 mm2, e = .returned (.pointer (some ⟨g2, 0, none⟩)) ∧ TableAt w' g2 mm2 ev l ∧ Below w.heap.size w w' ∧ w.heap.size ≤ g2 ∧ w.heap.size ≤ mm2 := by
  have hd := h.drew
  obtain ⟨c0, c1⟩ := h.cells
  obtain ⟨d0, d1⟩ := hd.cells
  go_enter Try.func24, Try.ntmps24
  go_wp2_with fail
  go_region_with (first
    | (go_at_call 44; refine (clone_any hd.map).mono ?_; rintro e w2 ⟨rfl, hm2, hb2⟩
       have h2 := hd.below hb2
       obtain ⟨e0, e1⟩ := h2.cells))
  all_goals
    go_wp2
    go_ret
    exact ⟨_, _, rfl, table_mk hm2, ((Below.refl _ w).drew.trans hb2).alloc hb2.size _, hb2.size, Nat.le_refl _⟩
end Go.Proofs.Ytdlmipoeeiaapaa
