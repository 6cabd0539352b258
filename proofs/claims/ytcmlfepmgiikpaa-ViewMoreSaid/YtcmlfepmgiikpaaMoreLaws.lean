/-
  One sample more: plain laws.
-/
import Derived.Test.YtcmlfepmgiikpaaLaterLaws
import Derived.Test.YtcmlfepmgiikpaaFillV
import Derived.Test.YtcmlfepmgiikpaaViewCount
namespace Go.Proofs.Ytcmlfepmgiikpaa
open Go.RowKit Go.Maps

/-- A record's place alone. -/
def kz (y : Rc) : Rc := ⟨y.nm, y.st, Ag.zero⟩
/-- Whether a list has a record's place. -/
def inL (L : List Rc) (y : Rc) : Bool := L.any fun x => x.same y
theorem inL_iff {L : List Rc} {y : Rc} : inL L y = true ↔ ∃ x ∈ L, x.nm = y.nm ∧ x.st = y.st := by
  unfold inL
  rw [List.any_eq_true]
  constructor
  · rintro ⟨x, hx, h⟩; exact ⟨x, hx, Rc.same_iff.1 h⟩
  · rintro ⟨x, hx, h⟩; exact ⟨x, hx, Rc.same_iff.2 h⟩
/-- Where the first list stands, when the second has come to k. -/
def idx (L M : List Rc) (k : Nat) : Nat := ((M.take k).filter (inL L)).length
theorem nd_lt {l : List Rc} (h : l.Pairwise Rc.lt) : l.Nodup := h.imp fun {a b} hlt e => by subst e; exact ahead_irrefl _ _ hlt
theorem map_kz {l : List Rc} (h : l.Pairwise Rc.lt) : (l.map kz).Pairwise Rc.lt := by rw [List.pairwise_map]; exact h
theorem keys_eq {L M : List Rc} (hL : Tab L) (hM : Tab M) (hsub : ∀ x ∈ L, ∃ y ∈ M, y.nm = x.nm ∧ y.st = x.st) : (M.filter (inL L)).map kz = L.map kz := by
  refine ord_ext (map_kz (hM.ord.filter _)) (map_kz hL.ord) ((List.perm_ext_iff_of_nodup (nd_lt (map_kz (hM.ord.filter _))) (nd_lt (map_kz hL.ord))).2 fun z => ?_)
  rw [List.mem_map, List.mem_map]
  constructor
  · rintro ⟨y, hy, rfl⟩
    obtain ⟨x, hx, h1, h2⟩ := inL_iff.1 (List.mem_filter.1 hy).2
    exact ⟨x, hx, by unfold kz; rw [h1, h2]⟩
  · rintro ⟨x, hx, rfl⟩
    obtain ⟨y, hy, h1, h2⟩ := hsub x hx
    exact ⟨y, List.mem_filter.2 ⟨hy, inL_iff.2 ⟨x, hx, h1.symm, h2.symm⟩⟩, by unfold kz; rw [h1, h2]⟩
theorem idx_next (L M : List Rc) (k : Nat) (h : k < M.length) : idx L M (k + 1) = idx L M k + if inL L M[k] = true then 1 else 0 := filter_next (inL L) M k h
theorem idx_all {L M : List Rc} (hL : Tab L) (hM : Tab M) (hsub : ∀ x ∈ L, ∃ y ∈ M, y.nm = x.nm ∧ y.st = x.st) : idx L M M.length = L.length := by
  unfold idx
  rw [List.take_length]
  have := congrArg List.length (keys_eq hL hM hsub)
  simpa using this
theorem same_one {L : List Rc} (hL : Tab L) {a b : Rc} (ha : a ∈ L) (hb : b ∈ L) (h1 : a.nm = b.nm) (h2 : a.st = b.st) : a = b := by
  have e1 := find_mem hL.ord ha
  have e2 := find_mem hL.ord hb
  rw [h1, h2, e2] at e1
  exact (Option.some.inj e1).symm
theorem idx_in {L M : List Rc} (hL : Tab L) (hM : Tab M) (hsub : ∀ x ∈ L, ∃ y ∈ M, y.nm = x.nm ∧ y.st = x.st) (k : Nat) (h : k < M.length) (hin : inL L M[k] = true) :
    ∃ hi : idx L M k < L.length, L[idx L M k].nm = M[k].nm ∧ L[idx L M k].st = M[k].st ∧ (M[k] ∈ L → L[idx L M k] = M[k]) := by
  have h1 : (M.filter (inL L))[idx L M k]? = some M[k] := filter_at (inL L) M k h hin
  have h2 := congrArg (fun l => l[idx L M k]?) (keys_eq hL hM hsub)
  simp only [List.getElem?_map, h1, Option.map_some] at h2
  have h3 : idx L M k < L.length := by
    by_cases e : idx L M k < L.length
    · exact e
    · rw [List.getElem?_eq_none (by omega)] at h2; cases h2
  rw [List.getElem?_eq_getElem h3, Option.map_some] at h2
  have h4 := Option.some.inj h2
  unfold kz at h4
  have h5 : M[k].nm = L[idx L M k].nm ∧ M[k].st = L[idx L M k].st := by
    injection h4 with a b c; exact ⟨a, b⟩
  exact ⟨h3, h5.1.symm, h5.2.symm, fun hm => same_one hL (List.getElem_mem h3) hm h5.1.symm h5.2.symm⟩
theorem idx_out {L M : List Rc} (k : Nat) (h : k < M.length) (hin : inL L M[k] = false) {i : Nat} (hi : i < L.length) : ¬ (L[i].nm = M[k].nm ∧ L[i].st = M[k].st) := by
  intro e
  rw [inL_iff.2 ⟨_, List.getElem_mem hi, e⟩] at hin
  cases hin
/-- Whether the sample makes a record in the tier. -/
def okR (r : Rch) (i : Int) (s : Smp) : Bool := r.has i s.tm && validB s.nm.toList
def ownR (r : Rch) (i : Int) (s : Smp) (y : Rc) : Bool := okR r i s && decide (y.nm = s.nm ∧ y.st = r.start i s.tm)
theorem view_more_no {r : Rch} {i : Int} {l : List Smp} {s : Smp} (h : okR r i s = false) : viewL r i (l ++ [s]) = viewL r i l := by
  unfold viewL
  rw [recs_snoc]
  unfold itemOf
  unfold okR at h
  rw [h]
  simp
theorem view_more_yes {r : Rch} {i : Int} {l : List Smp} {s : Smp} (h : okR r i s = true) : viewL r i (l ++ [s]) = addR 1 (viewL r i l) ⟨s.nm, r.start i s.tm, oneG s.vl⟩ := by
  unfold viewL
  rw [recs_snoc]
  unfold itemOf
  unfold okR at h
  rw [h]
  simp [addL_snoc]
theorem count_more (r : Rch) (i : Int) (l : List Smp) (s : Smp) : (recsOf r i (l ++ [s])).length = (recsOf r i l).length + if okR r i s = true then 1 else 0 := by
  rw [recs_snoc, List.length_append]
  unfold itemOf okR
  split <;> simp
theorem view_sub {r : Rch} {i : Int} {l : List Smp} {s : Smp} : ∀ x ∈ viewL r i l, ∃ y ∈ viewL r i (l ++ [s]), y.nm = x.nm ∧ y.st = x.st := by
  intro x hx
  cases h : okR r i s
  · rw [view_more_no h]; exact ⟨x, hx, rfl, rfl⟩
  · have e : viewL r i (l ++ [s]) = addL 1 (viewL r i l) [⟨s.nm, r.start i s.tm, oneG s.vl⟩] := view_more_yes h
    rw [e]
    exact some_addL (.inl hx)
theorem view_old {r : Rch} {i : Int} {l : List Smp} {s : Smp} {y : Rc} (hy : y ∈ viewL r i (l ++ [s])) (ho : ownR r i s y = false) : y ∈ viewL r i l := by
  cases h : okR r i s
  · rw [view_more_no h] at hy; exact hy
  · rw [view_more_yes h] at hy
    unfold addR at hy
    split at hy
    · rcases mem_putR hy with rfl | hy
      · unfold ownR at ho
        rw [h] at ho
        simp at ho
      · exact hy
    · exact hy
theorem view_out {r : Rch} {i : Int} {l : List Smp} {s : Smp} {y : Rc} (hy : y ∈ viewL r i (l ++ [s])) (hin : inL (viewL r i l) y = false) : ownR r i s y = true := by
  cases ho : ownR r i s y
  · rw [inL_iff.2 ⟨y, view_old hy ho, rfl, rfl⟩] at hin; cases hin
  · rfl
end Go.Proofs.Ytcmlfepmgiikpaa
