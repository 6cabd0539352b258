/-
  As time goes on records go, and those that stay are as they were: plain laws.
-/
import Derived.Test.YtcmlfepmgiikpaaTier2
import Derived.Test.YtcmlfepmgiikpaaRefCheck
namespace Go.Proofs.Ytcmlfepmgiikpaa
open Go.RowKit Go.Maps

theorem add_filter {rs : List Rc} (hok : ∀ r ∈ rs, r.ag.Ok) (P : Rc → Bool) (hP : OfPlace P) : addL 1 [] (rs.filter P) = (addL 1 [] rs).filter P := by
  have hok2 : ∀ r ∈ rs.filter P, r.ag.Ok := fun r hr => hok r (List.mem_filter.1 hr).1
  have hT := tab_addL (ev := 1) .nil hok
  have hT2 := tab_addL (ev := 1) .nil hok2
  have hF : Tab ((addL 1 [] rs).filter P) := ⟨hT.ord.filter _, fun r hr => hT.v r (List.mem_filter.1 hr).1⟩
  refine tab_ext hT2 hF (fun r hr => ?_) (fun r hr => ?_) fun s n => ?_
  · rcases mem_addL hr with hr | ⟨x, hx, hxr, h1, h2⟩
    · cases hr
    · obtain ⟨hx1, hx2⟩ := List.mem_filter.1 hx
      obtain ⟨y, hy, h3, h4⟩ := some_addL (ev := 1) (rs := rs) (l := []) (z := x) (.inr ⟨hx1, hxr⟩)
      exact ⟨y, List.mem_filter.2 ⟨hy, by rw [hP y x h3 h4]; exact hx2⟩, h3.trans h1.symm, h4.trans h2.symm⟩
  · obtain ⟨hr1, hr2⟩ := List.mem_filter.1 hr
    rcases mem_addL hr1 with hr1 | ⟨x, hx, hxr, h1, h2⟩
    · cases hr1
    · obtain ⟨y, hy, h3, h4⟩ := some_addL (ev := 1) (rs := rs.filter P) (l := []) (z := x) (.inr ⟨List.mem_filter.2 ⟨hx, by rw [← hP r x h1 h2]; exact hr2⟩, hxr⟩)
      exact ⟨y, hy, h3.trans h1.symm, h4.trans h2.symm⟩
  · have hQ : OfPlace (fun r => P r && atP s n r) := fun r t h1 h2 => by show (P r && atP s n r) = (P t && atP s n t); rw [hP r t h1 h2, atP_of s n r t h1 h2]
    have e1 : ((addL 1 [] rs).filter P).filter (atP s n) = (addL 1 [] rs).filter (fun r => P r && atP s n r) := by rw [List.filter_filter]; exact List.filter_congr fun r _ => Bool.and_comm _ _
    rw [e1, tot_addL _ (atP_of s n) .nil hok2, tot_addL _ hQ .nil hok, List.filter_filter]
    congr 3
    apply List.filter_congr
    intro r _
    cases rightR 1 r <;> cases P r <;> cases atP s n r <;> rfl
theorem flr_mono {a b e : Int} (h : a ≤ b) (he : 1 ≤ e) : flr a e ≤ flr b e := by
  unfold flr
  have h1 := Int.mul_ediv_add_emod a e
  have h2 := Int.mul_ediv_add_emod b e
  have h3 : a / e ≤ b / e := Int.ediv_le_ediv (by omega) h
  have h4 : e * (a / e) ≤ e * (b / e) := Int.mul_le_mul_of_nonneg_left h3 (by omega)
  omega
theorem back_mono {a b k e : Int} (h : a ≤ b) : backI a k e ≤ backI b k e := by
  unfold backI
  by_cases h1 : a < 0 ∨ k < 0 ∨ e < 1 ∨ a < k
  · rw [if_pos h1]
    split
    · omega
    · exact (flr_bd (by omega) (by omega)).1
  · rw [if_neg h1, if_neg (by omega)]
    exact flr_mono (by omega) (by omega)
theorem from_mono {nm : ByteArray} {ts : List Ti} {a b : Int} (h : a ≤ b) (i : Nat) : Rch.from_ ⟨a, nm, ts, []⟩ i ≤ Rch.from_ ⟨b, nm, ts, []⟩ i := by
  unfold Rch.from_
  cases ts[i]? with
  | none => exact Int.le_refl _
  | some t => exact back_mono h
theorem fromI_mono {nm : ByteArray} {ts : List Ti} {a b : Int} (h : a ≤ b) (i : Int) : Rch.fromI ⟨a, nm, ts, []⟩ i ≤ Rch.fromI ⟨b, nm, ts, []⟩ i := by
  unfold Rch.fromI
  split
  · exact from_mono h _
  · exact Int.le_refl _
/-- What stays, later. -/
def stays (f : Int) (x : Rc) : Bool := decide (f ≤ x.st)
theorem stays_of (f : Int) : OfPlace (stays f) := fun r s _ h => by unfold stays; rw [h]
theorem recs_later {nm : ByteArray} {ts : List Ti} {a b : Int} (h : a ≤ b) (i : Int) (l : List Smp) :
    recsOf ⟨b, nm, ts, []⟩ i l = (recsOf ⟨a, nm, ts, []⟩ i l).filter (stays (Rch.fromI ⟨b, nm, ts, []⟩ i)) := by
  induction l with
  | nil => rfl
  | cons s r ih =>
    have hm := fromI_mono (nm := nm) (ts := ts) h i
    have hst : Rch.start ⟨a, nm, ts, []⟩ i s.tm = Rch.start ⟨b, nm, ts, []⟩ i s.tm := rfl
    have e1 : ∀ (r1 : Rch), recsOf r1 i (s :: r) = (itemOf r1 i s).toList ++ recsOf r1 i r := fun r1 => by
      unfold recsOf
      cases hx : itemOf r1 i s <;> simp [hx]
    rw [e1, e1, List.filter_append, ← ih]
    congr 1
    unfold itemOf Rch.has
    rw [hst]
    cases isB ts.length i <;> cases decide (0 ≤ s.tm) <;> cases validB s.nm.toList <;> simp
    generalize Rch.fromI ⟨b, nm, ts, []⟩ i = fb at *
    generalize Rch.fromI ⟨a, nm, ts, []⟩ i = fa at *
    by_cases hc : fb ≤ Rch.start ⟨b, nm, ts, []⟩ i s.tm
    · have hc2 : fa ≤ Rch.start ⟨b, nm, ts, []⟩ i s.tm := by omega
      simp [hc, hc2, stays]
    · by_cases hc2 : fa ≤ Rch.start ⟨b, nm, ts, []⟩ i s.tm <;> simp [hc, hc2, stays]
theorem view_later {nm : ByteArray} {ts : List Ti} {a b : Int} (h : a ≤ b) (i : Int) (l : List Smp) (hok : ∀ s ∈ l, s.Ok) :
    viewL ⟨b, nm, ts, []⟩ i l = (viewL ⟨a, nm, ts, []⟩ i l).filter (stays (Rch.fromI ⟨b, nm, ts, []⟩ i)) := by
  unfold viewL
  rw [recs_later h, add_filter (fun r hr => (recs_ok hok r hr).2.1.ok) _ (stays_of _)]
end Go.Proofs.Ytcmlfepmgiikpaa
