/-
  A policy that may be, with one number spoilt: plain laws.
-/
import Derived.Test.YtnnamhomapagiaaDoorPolFits2
namespace Go.Proofs.YtnnamhomapagiaaDoor
open Go.RowKit

theorem dup_names {a b : List Ti} {t u : Ti} (h : a.map Ti.nm = b.map Ti.nm) (ht : t.nm = u.nm) : dupB a t = dupB b u := by
  have e : ∀ l : List Ti, ∀ x : Ti, dupB l x = (l.map Ti.nm).any fun y => y.toList == x.nm.toList := fun l x => by simp [dupB, List.any_map, Function.comp_def]
  rw [e, e, h, ht]
theorem set_names (ts : List Ti) (k : Nat) (t : Ti) (h : ∀ hk : k < ts.length, t.nm = (ts[k]'hk).nm) : (ts.set k t).map Ti.nm = ts.map Ti.nm := by
  apply List.ext_getElem?
  intro i
  rw [List.getElem?_map, List.getElem?_map]
  by_cases hi : i = k
  · subst hi
    by_cases hk : i < ts.length
    · rw [List.getElem?_set_self hk, List.getElem?_eq_getElem hk]; simp [h hk]
    · rw [List.getElem?_eq_none (by simpa using hk), List.getElem?_eq_none (by simpa using hk)]
  · rw [List.getElem?_set_ne (by omega)]
/-- With another number of shards in tier k nothing else is spoilt. -/
theorem bad_set (ts : List Ti) (hall : ∀ i, i < ts.length → badAt ts i = false) (k : Nat) (hk : k < ts.length) (s : Int) (i : Nat) (hi : i < ts.length) :
    badAt (ts.set k ⟨(ts[k]'hk).nm, (ts[k]'hk).ev, (ts[k]'hk).kp, s⟩) i = (decide (i = k) && (decide (s < 1) || decide (8 < s))) := by
  have hi' : i < (ts.set k ⟨(ts[k]'hk).nm, (ts[k]'hk).ev, (ts[k]'hk).kp, s⟩).length := by rw [List.length_set]; exact hi
  have hx : ∀ (j : Nat) (hj : j < ts.length), ((ts.set k ⟨(ts[k]'hk).nm, (ts[k]'hk).ev, (ts[k]'hk).kp, s⟩)[j]'(by rw [List.length_set]; exact hj)).nm = (ts[j]'hj).nm ∧
      ((ts.set k ⟨(ts[k]'hk).nm, (ts[k]'hk).ev, (ts[k]'hk).kp, s⟩)[j]'(by rw [List.length_set]; exact hj)).ev = (ts[j]'hj).ev ∧ ((ts.set k ⟨(ts[k]'hk).nm, (ts[k]'hk).ev, (ts[k]'hk).kp, s⟩)[j]'(by rw [List.length_set]; exact hj)).kp = (ts[j]'hj).kp ∧
      ((ts.set k ⟨(ts[k]'hk).nm, (ts[k]'hk).ev, (ts[k]'hk).kp, s⟩)[j]'(by rw [List.length_set]; exact hj)).sh = if j = k then s else (ts[j]'hj).sh := fun j hj => by
    rw [List.getElem_set]
    by_cases e : k = j
    · subst e; rw [if_pos rfl]; simp
    · rw [if_neg e]; exact ⟨rfl, rfl, rfl, by rw [if_neg (fun h => e h.symm)]⟩
  have hb := hall i hi
  rw [badAt_is ts i hi] at hb
  simp only [Bool.or_eq_false_iff] at hb
  obtain ⟨⟨hb1, hb2⟩, hb3⟩ := hb
  refine (badAt_is _ i hi').trans ?_
  obtain ⟨h1, h2, h3, h4⟩ := hx i hi
  have e2 : dupB ((ts.set k ⟨(ts[k]'hk).nm, (ts[k]'hk).ev, (ts[k]'hk).kp, s⟩).take i) ((ts.set k ⟨(ts[k]'hk).nm, (ts[k]'hk).ev, (ts[k]'hk).kp, s⟩)[i]'hi') = false := by
    rw [← hb2]
    refine dup_names ?_ h1
    rw [List.map_take, List.map_take, set_names ts k _ (fun _ => rfl)]
  have e3 : (if i = 0 then !(((ts.set k ⟨(ts[k]'hk).nm, (ts[k]'hk).ev, (ts[k]'hk).kp, s⟩)[i]'hi').ev == 1) else match (ts.set k ⟨(ts[k]'hk).nm, (ts[k]'hk).ev, (ts[k]'hk).kp, s⟩)[i - 1]? with | none => false | some o => badTwo o ((ts.set k ⟨(ts[k]'hk).nm, (ts[k]'hk).ev, (ts[k]'hk).kp, s⟩)[i]'hi')) = false := by
    by_cases h0 : i = 0
    · rw [if_pos h0] at hb3 ⊢
      rw [h2]; exact hb3
    · rw [if_neg h0] at hb3 ⊢
      have hp : i - 1 < ts.length := by omega
      rw [List.getElem?_eq_getElem hp] at hb3
      rw [List.getElem?_eq_getElem (by rw [List.length_set]; exact hp)]
      obtain ⟨_, g2, g3, _⟩ := hx (i - 1) hp
      have hb3' : badTwo (ts[i - 1]'hp) (ts[i]'hi) = false := hb3
      show badTwo _ _ = false
      unfold badTwo at hb3' ⊢
      rw [h2, h3, g2, g3]; exact hb3'
  rw [e2, Bool.or_false]
  refine (congrArg (fun b => badOne ((ts.set k ⟨(ts[k]'hk).nm, (ts[k]'hk).ev, (ts[k]'hk).kp, s⟩)[i]'hi') || b) e3).trans ?_
  show (badOne _ || false) = _
  rw [Bool.or_false]
  unfold badOne at hb1 ⊢
  simp only [Bool.or_eq_false_iff, decide_eq_false_iff_not, Bool.not_eq_false'] at hb1
  obtain ⟨q1, q2, q3, q4, q5, q6, q7⟩ := hb1
  rw [h1, h2, h3, h4, q1, decide_eq_false q2, decide_eq_false q3, decide_eq_false q6, decide_eq_false q7]
  by_cases e : i = k
  · rw [if_pos e, decide_eq_true e]; simp
  · rw [if_neg e, decide_eq_false e, decide_eq_false q4, decide_eq_false q5]; rfl
theorem check_set {nm : List UInt8} {ts : List Ti} (h : checkR nm ts = (0, 0)) (k : Nat) (hk : k < ts.length) (s : Int) :
    checkR nm (ts.set k ⟨(ts[k]'hk).nm, (ts[k]'hk).ev, (ts[k]'hk).kp, s⟩) = if 1 ≤ s ∧ s ≤ 8 then (0, 0) else (23, (k : Int) + 1) := by
  have h0 := h
  unfold checkR at h
  split at h
  · cases h
  · next hb =>
    have hall : ∀ i, i < ts.length → badAt ts i = false := by
      cases hfd : (List.range ts.length).find? (badAt ts) with
      | some i => rw [hfd] at h; simp at h
      | none =>
        rw [List.find?_eq_none] at hfd
        exact fun i hi => by simpa using hfd i (List.mem_range.2 hi)
    have hset := bad_set ts hall k hk s
    unfold checkR
    rw [List.length_set, if_neg hb]
    by_cases hs : 1 ≤ s ∧ s ≤ 8
    · rw [if_pos hs, find_no (fun i hi => by rw [hset i hi, decide_eq_false (show ¬ s < 1 by omega), decide_eq_false (show ¬ 8 < s by omega)]; simp)]
    · rw [if_neg hs, find_first hk (by
        rw [hset k hk, decide_eq_true rfl]
        rcases (show s < 1 ∨ 8 < s by omega) with h1 | h1
        · rw [decide_eq_true h1]; rfl
        · rw [decide_eq_true h1]; simp) (fun i hi => by rw [hset i (by omega), decide_eq_false (by omega)]; rfl)]
theorem checkR_cases (nm : List UInt8) (ts : List Ti) : checkR nm ts = (0, 0) ∨ ((checkR nm ts).1 = 23 ∧ 0 ≤ (checkR nm ts).2 ∧ (checkR nm ts).2 ≤ ts.length) := by
  unfold checkR
  split
  · exact .inr ⟨rfl, by simp, by simp⟩
  · cases hfd : (List.range ts.length).find? (badAt ts) with
    | none => exact .inl rfl
    | some i =>
      have := List.mem_range.1 (List.mem_of_find?_eq_some hfd)
      exact .inr ⟨rfl, by simp; omega, by simp; omega⟩
end Go.Proofs.YtnnamhomapagiaaDoor
