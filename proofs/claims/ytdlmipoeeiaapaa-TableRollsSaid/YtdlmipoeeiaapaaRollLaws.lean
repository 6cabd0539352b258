/-
  Rolled in two steps it is as at once; nothing is lost: plain laws.
-/
import Derived.Test.YtdlmipoeeiaapaaTableRoll
import Derived.Test.YtdlmipoeeiaapaaTot
namespace Go.Proofs.Ytdlmipoeeiaapaa
open Go.RowKit Go.Maps

theorem flr_mod {t e : Int} : flr t e % e = 0 := by
  have h := Int.mul_ediv_add_emod t e
  unfold flr
  rw [show t - t % e = e * (t / e) by omega]
  exact Int.mul_emod_right _ _
theorem flr_flr {t a b : Int} (ha : 1 ≤ a) (hb : 1 ≤ b) : flr (flr t a) (a * b) = flr t (a * b) := by
  have hab : 0 < a * b := Int.mul_pos (by omega) (by omega)
  have h1 : t % (a * b) % a = t % a := Int.emod_emod_of_dvd t (Int.dvd_mul_right a b)
  have h2 := Int.emod_nonneg t (show a * b ≠ 0 by omega)
  have h3 := Int.emod_lt_of_pos t hab
  have h4 := Int.emod_nonneg t (show a ≠ 0 by omega)
  have h5 : t % a ≤ t % (a * b) := by
    have h6 := Int.emod_nonneg (t % (a * b)) (show a ≠ 0 by omega)
    have h7 := Int.mul_ediv_add_emod (t % (a * b)) a
    have h8 : 0 ≤ a * (t % (a * b) / a) := Int.mul_nonneg (by omega) (Int.ediv_nonneg h2 (by omega))
    rw [h1] at h7
    omega
  have h9 : (t - t % a) % (a * b) = t % (a * b) - t % a := by
    have e : t - t % a = (t % (a * b) - t % a) + (a * b) * (t / (a * b)) := by
      have := Int.mul_ediv_add_emod t (a * b)
      omega
    rw [e, Int.add_mul_emod_self_left, Int.emod_eq_of_lt (by omega) (by omega)]
  unfold flr
  rw [h9]
  omega
/-- Records as a table may have them. -/
structure Sound (l : List Rc) : Prop where
  nm : ∀ r ∈ l, validB r.nm.toList = true
  st : ∀ r ∈ l, 0 ≤ r.st
  v : ∀ r ∈ l, r.ag.V
theorem sound_fill {rs : List Rc} (h : ∀ r ∈ rs, r.ag.Ok) : Sound (addL 1 [] rs) := ⟨fun _ hr => (fill_right hr).1, fun _ hr => (fill_right hr).2, (tab_addL .nil h).v⟩
theorem mem_rolled {ev fr : Int} {l : List Rc} {r : Rc} : r ∈ rolledL ev fr l ↔ ∃ x ∈ l, fr ≤ flr x.st ev ∧ x.at_ ev = r := by
  unfold rolledL
  rw [List.mem_filter, List.mem_map]
  constructor
  · rintro ⟨⟨x, hx, rfl⟩, h⟩; exact ⟨x, hx, of_decide_eq_true h, rfl⟩
  · rintro ⟨x, hx, h, rfl⟩; exact ⟨⟨x, hx, rfl⟩, decide_eq_true h⟩
theorem right_at {ev : Int} {l : List Rc} (h : Sound l) (hev : 1 ≤ ev) {x : Rc} (hx : x ∈ l) : rightR ev (x.at_ ev) = true := by
  have h1 := (flr_bd (h.st x hx) hev).1
  unfold rightR Rc.at_ onB
  simp only [Bool.and_eq_true, decide_eq_true_eq]
  refine ⟨⟨⟨h.nm x hx, h1⟩, hev, ?_⟩, (h.v x hx).v⟩
  rw [tmod_pos h1]; exact flr_mod
theorem rolled_right {ev fr : Int} {l : List Rc} (h : Sound l) (hev : 1 ≤ ev) : ∀ r ∈ rolledL ev fr l, rightR ev r = true := by
  intro r hr
  obtain ⟨x, hx, _, rfl⟩ := mem_rolled.1 hr
  exact right_at h hev hx
theorem rolled_ok {ev fr : Int} {l : List Rc} (h : Sound l) : ∀ r ∈ rolledL ev fr l, r.ag.Ok := by
  intro r hr
  obtain ⟨x, hx, _, rfl⟩ := mem_rolled.1 hr
  exact (h.v x hx).ok
theorem tab_roll {ev fr : Int} {l : List Rc} (h : Sound l) : Tab (rollL ev fr l) := tab_addL .nil (rolled_ok h)
theorem mem_roll {ev fr : Int} {l : List Rc} {r : Rc} (h : r ∈ rollL ev fr l) : ∃ x ∈ l, fr ≤ flr x.st ev ∧ r.nm = x.nm ∧ r.st = flr x.st ev := by
  rcases mem_addL h with h | ⟨y, hy, _, h1, h2⟩
  · cases h
  · obtain ⟨x, hx, h3, rfl⟩ := mem_rolled.1 hy
    exact ⟨x, hx, h3, h1, h2⟩
theorem some_roll {ev fr : Int} {l : List Rc} (h : Sound l) (hev : 1 ≤ ev) {x : Rc} (hx : x ∈ l) (hf : fr ≤ flr x.st ev) : ∃ r ∈ rollL ev fr l, r.nm = x.nm ∧ r.st = flr x.st ev :=
  some_addL (.inr ⟨mem_rolled.2 ⟨x, hx, hf, rfl⟩, right_at h hev hx⟩)
theorem sound_roll {ev fr : Int} {l : List Rc} (h : Sound l) (hev : 1 ≤ ev) : Sound (rollL ev fr l) := by
  refine ⟨fun r hr => ?_, fun r hr => ?_, (tab_roll h).v⟩ <;> obtain ⟨x, hx, _, h1, h2⟩ := mem_roll hr
  · rw [h1]; exact h.nm x hx
  · rw [h2]; exact (flr_bd (h.st x hx) hev).1
theorem good_ags {l : List Rc} (h : ∀ r ∈ l, r.ag.V) (P : Rc → Bool) : ∀ a ∈ (l.filter P).map Rc.ag, a.Good := by
  intro a ha
  obtain ⟨r, hr, rfl⟩ := List.mem_map.1 ha
  exact (h r (List.mem_filter.1 hr).1).good
theorem tot_roll {ev fr : Int} {l : List Rc} (h : Sound l) (hev : 1 ≤ ev) (P : Rc → Bool) (hP : OfPlace P) :
    tot (((rollL ev fr l).filter P).map Rc.ag) = tot ((l.filter fun r => decide (fr ≤ flr r.st ev) && P (r.at_ ev)).map Rc.ag) := by
  unfold rollL
  rw [tot_addL P hP .nil (rolled_ok h)]
  have e : (rolledL ev fr l).filter (fun r => rightR ev r && P r) = (rolledL ev fr l).filter P := List.filter_congr fun r hr => by rw [rolled_right h hev r hr, Bool.true_and]
  have hV : ∀ r ∈ rolledL ev fr l, r.ag.V := fun r hr => by obtain ⟨x, hx, _, rfl⟩ := mem_rolled.1 hr; exact h.v x hx
  rw [e, show tot ((([] : List Rc).filter P).map Rc.ag) = Ag.zero from rfl, zero_plus (good_tot (good_ags hV P))]
  congr 1
  unfold rolledL
  rw [List.filter_filter, List.filter_map, List.map_map]
  have e2 : (l.filter ((fun a => P a && decide (fr ≤ a.st)) ∘ Rc.at_ ev)) = l.filter fun r => decide (fr ≤ flr r.st ev) && P (r.at_ ev) := List.filter_congr fun r _ => by
    show (P (r.at_ ev) && decide (fr ≤ flr r.st ev)) = _
    rw [Bool.and_comm]
  rw [e2]
  rfl
/-- Rolled in two steps it is as at once. -/
theorem roll_twice {l : List Rc} (h : Sound l) {a b : Int} (ha : 1 ≤ a) (hb : 1 ≤ b) : rollL (a * b) 0 (rollL a 0 l) = rollL (a * b) 0 l := by
  have hab : 1 ≤ a * b := Int.mul_pos (show 0 < a by omega) (show 0 < b by omega)
  have hs := sound_roll (fr := 0) h ha
  refine tab_ext (tab_roll hs) (tab_roll h) (fun r hr => ?_) (fun r hr => ?_) (fun s n => ?_)
  · obtain ⟨x, hx, _, h1, h2⟩ := mem_roll hr
    obtain ⟨y, hy, _, h3, h4⟩ := mem_roll hx
    obtain ⟨z, hz, h5, h6⟩ := some_roll (ev := a * b) (fr := 0) h hab hy (flr_bd (h.st y hy) hab).1
    exact ⟨z, hz, by rw [h5, h1, h3], by rw [h6, h2, h4, flr_flr ha hb]⟩
  · obtain ⟨y, hy, _, h3, h4⟩ := mem_roll hr
    obtain ⟨x, hx, h1, h2⟩ := some_roll (ev := a) (fr := 0) h ha hy (flr_bd (h.st y hy) ha).1
    obtain ⟨z, hz, h5, h6⟩ := some_roll (ev := a * b) (fr := 0) hs hab hx (flr_bd (hs.st x hx) hab).1
    exact ⟨z, hz, by rw [h5, h1, h3], by rw [h6, h2, h4, flr_flr ha hb]⟩
  · rw [tot_roll hs hab _ (atP_of s n), tot_roll h hab _ (atP_of s n)]
    have hQ : OfPlace fun r : Rc => decide (0 ≤ flr r.st (a * b)) && atP s n (r.at_ (a * b)) := fun r t h1 h2 => by
      show _ = _
      unfold Rc.at_ atP
      simp only [h1, h2]
    rw [tot_roll h ha _ hQ]
    congr 2
    refine List.filter_congr fun r hr => ?_
    have e0 := (flr_bd (h.st r hr) ha).1
    have e1 := (flr_bd (h.st r hr) hab).1
    unfold Rc.at_ atP
    simp only [flr_flr ha hb, e0, e1, decide_true, Bool.true_and]
/-- Of what is not left out nothing is lost. -/
theorem roll_tot {ev fr : Int} {l : List Rc} (h : Sound l) (hev : 1 ≤ ev) : tot ((rollL ev fr l).map Rc.ag) = tot ((l.filter fun r => decide (fr ≤ flr r.st ev)).map Rc.ag) := by
  have := tot_roll (fr := fr) h hev (fun _ => true) (fun _ _ _ _ => rfl)
  simp only [Bool.and_true] at this
  rw [← this, List.filter_eq_self.2 (fun _ _ => rfl)]
theorem tot_next {l : List Ag} {a : Ag} (h : ∀ x ∈ l, x.Good) (ha : a.Good) : tot (l ++ [a]) = plus (tot l) a := by
  rw [tot_app h (fun x hx => by rw [List.mem_singleton.1 hx]; exact ha), tot_cons, show tot [] = Ag.zero from rfl, plus_zero]
end Go.Proofs.Ytdlmipoeeiaapaa
