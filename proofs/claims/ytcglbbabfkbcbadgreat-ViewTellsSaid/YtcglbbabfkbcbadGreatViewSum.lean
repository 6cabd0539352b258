/-
  The counts of a view's records sum up to how many samples it has.
-/
import Derived.Test.YtcglbbabfkbcbadGreatRefView
import Derived.Test.YtcglbbabfkbcbadGreatM11
namespace Go.Proofs.YtcglbbabfkbcbadGreat
open Go.RowKit

theorem tot_c : ∀ {l : List Ag}, (∀ a ∈ l, a.V) → (tot l).c = min (l.map Ag.c).sum 4611686018427387904
  | [], _ => by simp [tot, Ag.zero]; rfl
  | a :: r, h => by
    have ha := h a (by simp)
    have ih := tot_c (l := r) (fun x hx => h x (by simp [hx]))
    have hg := good_tot (l := r) (fun x hx => (h x (by simp [hx])).good)
    have h1 := ha.cnt
    rw [tot_cons, List.map_cons, List.sum_cons]
    rcases hg with e | e
    · rw [e, plus_zero]
      rw [e, zero_c] at ih
      omega
    · have h2 := e.cnt
      rw [plus_V e, (both_c ha e).1, ih]
      omega
theorem sum_ones : ∀ {l : List Rc}, (∀ x ∈ l, x.ag.c = 1) → (l.map fun x => x.ag.c).sum = (l.length : Int)
  | [], _ => rfl
  | x :: r, h => by
    have h1 := h x (by simp)
    have h2 := sum_ones (l := r) (fun y hy => h y (by simp [hy]))
    rw [List.map_cons, List.sum_cons, h1, h2, List.length_cons]
    omega
theorem item_one {r : Rch} {i : Int} {s : Smp} {x : Rc} (h : itemOf r i s = some x) : x.ag.c = 1 := by
  unfold itemOf at h
  split at h
  · cases h; rfl
  · cases h
theorem view_sum (r : Rch) (i : Int) (l : List Smp) (hok : ∀ s ∈ l, s.Ok) (hl : l.length ≤ 100000) : ((viewL r i l).map fun x => x.ag.c).sum = ((recsOf r i l).length : Int) := by
  have hR := recs_ok (r := r) (i := i) hok
  have hT := view_tab r i l hok
  have h1 := tot_addL (ev := 1) (fun _ => true) (fun _ _ _ _ => rfl) (rs := recsOf r i l) (l := []) Tab.nil (fun x hx => (hR x hx).2.1.ok)
  have e1 : ((viewL r i l).filter fun _ => true) = viewL r i l := by simp
  have e2 : ((recsOf r i l).filter fun x => rightR 1 x && true) = recsOf r i l := List.filter_eq_self.2 (fun x hx => by rw [(hR x hx).1]; rfl)
  have hV2 : ∀ a ∈ (recsOf r i l).map Rc.ag, a.V := fun a ha => by
    obtain ⟨x, hx, rfl⟩ := List.mem_map.1 ha
    exact (hR x hx).2.1
  have hV1 : ∀ a ∈ (viewL r i l).map Rc.ag, a.V := fun a ha => by
    obtain ⟨x, hx, rfl⟩ := List.mem_map.1 ha
    exact hT.v x hx
  have h0 : tot ((([] : List Rc).filter fun _ => true).map Rc.ag) = Ag.zero := rfl
  rw [h0, zero_plus (good_tot fun a ha => by
    obtain ⟨x, hx, rfl⟩ := List.mem_map.1 ha
    exact (hR x (List.mem_filter.1 hx).1).2.1.good), e2] at h1
  change tot (((viewL r i l).filter fun _ => true).map Rc.ag) = _ at h1
  rw [e1] at h1
  have h2 := tot_c hV1
  have h3 := tot_c hV2
  rw [h1, h3] at h2
  have h4 := sum_ones (l := recsOf r i l) (fun x hx => by
    unfold recsOf at hx
    obtain ⟨s, _, hs⟩ := List.mem_filterMap.1 hx
    exact item_one hs)
  have h5 := recs_len r i l
  rw [List.map_map, List.map_map] at h2
  have h6 : ((recsOf r i l).map (Ag.c ∘ Rc.ag)).sum = ((recsOf r i l).length : Int) := h4
  have h7 : ((viewL r i l).map (Ag.c ∘ Rc.ag)).sum = ((recsOf r i l).length : Int) := by omega
  exact h7
end Go.Proofs.YtcglbbabfkbcbadGreat
