/-
  pool: Copy.
-/
import Derived.Test.YtcglbbabfkbcbacShelf
import Derived.Test.YtcglbbabfkbcbacPoolTake2
import Derived.Deep.RegionWith
namespace Go.Proofs.Ytcglbbabfkbcbac
open Go.RowKit Go.Maps Go.Shelf

theorem PoolAt.drew {w : World} {g m : Nat} {f n : Int} {us : List Int} (h : PoolAt w g m f n us) : PoolAt w.drew g m f n us := h.below ((Below.refl _ _).drew)
theorem clone_set {w : World} {m : Nat} {us : List Int} (h : SetAt w m us) :
    Calls Try.prog 23 #[.map (some m)] w fun e w' => e = .returned (.map (some w.heap.size)) ∧ SetAt w' w.heap.size us ∧ Below w.heap.size w w' := by
  refine (AnyW.maps_Clone_owns Try.cloneM 3 (unitElem (H := Unit)) m us.length (setD us) w h.own).mono ?_
  rintro e w' ⟨rfl, h1, _, hb⟩
  exact ⟨rfl, ⟨h1, h.rising⟩, hb⟩
theorem pool_mk {w w1 : World} {g m m1 : Nat} {f n : Int} {us : List Int} (h0 : PoolAt w1 g m1 f n us) (h : SetAt w m us) (tl : List Value) (T : TypeId) :
    PoolAt (w.alloc (.cells ⟨.int .i64 f :: .int .i64 n :: .map (some m) :: tl⟩ T)) w.heap.size m f n us :=
  ⟨⟨tl, T, heap_alloc_new w _⟩, h.below ((Below.refl _ _).alloc (Nat.le_refl _) _) h.lt, h0.rng, h0.ins⟩
/-- A block that holds a pool by its type. -/
def PoolTy (w : World) (g : Nat) : Prop := ∃ cs fr, w.heap[g]? = some (.cells cs 30 fr)
set_option maxRecDepth 100000 in
set_option maxHeartbeats 2000000 in
theorem copyP_any {w : World} {g m : Nat} {f n : Int} {us : List Int} (h : PoolAt w g m f n us) :
    Calls Try.prog 13 #[.pointer (some ⟨g, 0, none⟩)] w fun e w' => ∃ g2 m2, e = .returned (.pointer (some ⟨g2, 0, none⟩)) ∧ PoolAt w' g2 m2 f n us ∧ PoolTy w' g2 ∧ Below w.heap.size w w' ∧ w.heap.size ≤ g2 ∧ w.heap.size ≤ m2 := by
  have hd := h.drew
  obtain ⟨c0, c1, c2⟩ := h.cells
  obtain ⟨d0, d1, d2⟩ := hd.cells
  go_enter Try.func13, Try.ntmps13
  go_wp2_with fail
  go_region_with (first
    | (go_at_call 23; refine (clone_set hd.set).mono ?_; rintro e w2 ⟨rfl, hm2, hb2⟩
       have h2 := hd.below hb2
       obtain ⟨e0, e1, e2⟩ := h2.cells))
  all_goals
    go_wp2
    go_ret
    exact ⟨_, _, rfl, pool_mk h hm2 [] _, ⟨_, _, heap_alloc_new _ _⟩, ((Below.refl _ w).drew.trans hb2).alloc hb2.size _, hb2.size, Nat.le_refl _⟩
end Go.Proofs.Ytcglbbabfkbcbac
