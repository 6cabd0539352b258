/-
  A row of the call's own as a slice of records.
-/
import Derived.Test.YtcmlfepmgiikpaaAllV
namespace Go.Proofs.Ytcmlfepmgiikpaa
open Go.RowKit Go.Maps

theorem own_rcs {w : World} {B : Nat} {v : Value} {l : List Rc} (h : w.ownsRow B 50 7 v l.length (l.flatMap Rc.cells)) (hok : ∀ r ∈ l, r.Ok) (hn : l.length ≤ maxLen) :
    ∃ A c, v = .slice A l.length c ∧ Rcs w A l.length l := by
  have hnm : ∀ r ∈ l, r.nm.size ≤ maxLen := fun r hr => (hok r hr).nm
  have hst : ∀ r ∈ l, (Lit.int .i64 r.st).wf = true := fun r hr => (hok r hr).st
  have hag : ∀ r ∈ l, r.ag.Ok := fun r hr => (hok r hr).ag.ok
  rcases h.2 with ⟨rfl, he⟩ | ⟨g, cap, cur, rfl, _, hg, _, _, _, ht⟩
  · refine ⟨none, 0, by rw [he], ⟨?_, rfl, hn, hnm, hst, hag⟩⟩
    rw [List.eq_nil_of_length_eq_zero he]; exact Sl.nil _ _
  · refine ⟨some ⟨g, 0, none⟩, cap, rfl, ⟨⟨fun _ => ⟨g, 0, rfl, lt_of_block hg, fun j u hu => ?_⟩⟩, rfl, hn, hnm, hst, hag⟩⟩
    have hj : j < l.length * 7 := by have := (List.getElem?_eq_some_iff.1 hu).1; rwa [rowK_len rc_len] at this
    rw [Nat.zero_add, h.cellAt j hj]
    exact hu
theorem Rcs.keepB {w w' : World} {A : Option Addr} {n b0 : Nat} {l : List Rc} (h : Rcs w A n l) (hm : ∀ o, w.cell? ⟨b0, o, none⟩ = none) (hg : w.grownBy w' (some b0)) : Rcs w' A n l := by
  refine ⟨⟨fun hne => ?_⟩, h.len, h.n_le, h.nm, h.st, h.ok⟩
  obtain ⟨b, off, e, hb, hc⟩ := h.sl.at_ hne
  have hbm : b ≠ b0 := by
    intro e2
    subst e2
    cases hx : l.flatMap Rc.cells with
    | nil => exact hne hx
    | cons u r =>
      have := hc 0 u (by rw [hx]; rfl)
      rw [hm] at this; cases this
  exact ⟨b, off, e, Nat.lt_of_lt_of_le hb hg.size, fun j u hu => hg.cell (hc j u hu) (fun e3 => hbm (by injection e3))⟩
theorem Rcs.below {w w' : World} {A : Option Addr} {n : Nat} {l : List Rc} (h : Rcs w A n l) (hb : Below w.heap.size w w') : Rcs w' A n l := ⟨h.sl.below hb, h.len, h.n_le, h.nm, h.st, h.ok⟩
end Go.Proofs.Ytcmlfepmgiikpaa
