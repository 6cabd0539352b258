/-
  view.Tier: a tier's records, in order.
-/
import Derived.Test.YtcmlfepmgiikpaaPut
import Derived.Test.YtcmlfepmgiikpaaRecDelV
import Derived.Maps.RangeWalk
import Derived.Deep.LoopGhost
import Derived.Deep.DeepCutAuto
import Derived.Deep.RegionLaw
namespace Go.Proofs.Ytcmlfepmgiikpaa
open Go.ChangeShapes Go.WideShapes Go.ChangeAt Go.RowKit Go.Deep Go.Maps

theorem inv_place : ∀ (key : Value) (kl : Lit), keyOf Try.prog 71 key = some kl → ∃ x : ByteArray × Int, key = placeV x.1 x.2 := fun key kl h => by
  obtain ⟨s, n, rfl, _⟩ := key_inv h
  exact ⟨(s, n), rfl⟩
/-- A slice's three parts. -/
abbrev slV (x : Option Addr × Nat × Nat) : Value := .slice x.1 x.2.1 x.2.2
theorem inv_row {w : World} {base : Nat} : ∀ (v : Value) (y : DataW Unit × List MemPlace), rowElem w base 3 .i64 v = some y → ∃ c : Option Addr × Nat × Nat, v = slV c := fun v y h => by
  obtain ⟨zs, ho, _⟩ := rowElem_inv h
  obtain ⟨A, c, e, _⟩ := own_sl ho.1
  exact ⟨(A, zs.length, c), e⟩
/-- The groups that a range has come by. -/
def cameG (gs : List Gr) (left : Lit → Bool) : List Gr := gs.filter fun g => !left (klit g.nm g.st)
theorem has_group {D : DataW Unit} {gs : List Gr} (h : RepV D gs) {g : Gr} (hg : g ∈ gs) : Maps.has D (klit g.nm g.st) = true := by
  obtain ⟨ps, rfl, hp⟩ := h.perm
  rw [Maps.has_eq, List.any_eq_true]
  exact ⟨grP g, hp.mem_iff.2 (List.mem_map.2 ⟨g, hg, rfl⟩), same_klit.2 rfl⟩
theorem cameG_start {D : DataW Unit} {gs : List Gr} (h : RepV D gs) : cameG gs (Maps.has D) = [] := by
  unfold cameG
  rw [List.filter_eq_nil_iff]
  intro g hg
  rw [has_group h hg]
  simp
theorem cameG_end {gs : List Gr} {left : Lit → Bool} (h : ∀ kl, left kl = false) : cameG gs left = gs := by
  unfold cameG
  exact List.filter_eq_self.2 (fun r _ => by rw [h]; rfl)
theorem cameG_step {D : DataW Unit} {gs : List Gr} (h : RepV D gs) {left : Lit → Bool} {g0 : Gr} (hg : g0 ∈ gs) (hl : left (klit g0.nm g0.st) = true) : (cameG gs fun z => left z && !z.sameKey (klit g0.nm g0.st)).Perm (g0 :: cameG gs left) := by
  obtain ⟨a, b, rfl⟩ := List.append_of_mem hg
  have hap := h.apart
  rw [List.pairwise_append, List.pairwise_cons] at hap
  obtain ⟨_, ⟨hb, _⟩, hab⟩ := hap
  have hne : ∀ x ∈ a ++ g0 :: b, ¬ (x.nm = g0.nm ∧ x.st = g0.st) → (left (klit x.nm x.st) && !(klit x.nm x.st).sameKey (klit g0.nm g0.st)) = left (klit x.nm x.st) := by
    intro x hx hs
    have : (klit x.nm x.st).sameKey (klit g0.nm g0.st) = false := by
      cases hk : (klit x.nm x.st).sameKey (klit g0.nm g0.st)
      · rfl
      · exact absurd ((gklit_iff (h.ok x hx) (h.ok g0 hg).nm (h.ok g0 hg).st).1 (same_klit.1 hk)) hs
    rw [this]; simp
  have e1 : cameG a (fun z => left z && !z.sameKey (klit g0.nm g0.st)) = cameG a left := by
    unfold cameG
    apply List.filter_congr
    intro x hx
    exact congrArg Bool.not (hne x (by simp [hx]) (hab x hx g0 (by simp)))
  have e2 : cameG b (fun z => left z && !z.sameKey (klit g0.nm g0.st)) = cameG b left := by
    unfold cameG
    apply List.filter_congr
    intro x hx
    exact congrArg Bool.not (hne x (by simp [hx]) (fun e => hb x hx ⟨e.1.symm, e.2.symm⟩))
  have e3 : (klit g0.nm g0.st).sameKey (klit g0.nm g0.st) = true := same_klit.2 rfl
  unfold cameG at *
  rw [List.filter_append, List.filter_append, List.filter_cons, List.filter_cons, e1, e2, if_pos (by show (!(left _ && !(klit g0.nm g0.st).sameKey (klit g0.nm g0.st))) = true; rw [e3]; simp), if_neg (by rw [hl]; simp)]
  exact List.perm_middle
/-- What came in a step of the range is one of the groups. -/
theorem RepV.next {D : DataW Unit} {gs : List Gr} (h : RepV D gs) {w : World} {base : Nat} {s : ByteArray} {n : Int} {kl : Lit} {c : Value} {y : DataW Unit × List MemPlace} (hk : keyOf Try.prog 71 (placeV s n) = some kl) (hc : rowElem w base 3 .i64 c = some y) (hat : ∀ z, D.atKey kl z = y.1) :
    ∃ g ∈ gs, s = g.nm ∧ n = g.st ∧ kl = klit g.nm g.st ∧ w.ownsInts base 3 .i64 c g.vs := by
  obtain ⟨s', n', e1, rfl, hs, hn⟩ := key_inv hk
  have e2 : s = s' ∧ n = n' := by simpa [placeV] using e1
  obtain ⟨rfl, rfl⟩ := e2
  obtain ⟨zs, ho, rfl⟩ := rowElem_inv hc
  have e := h.at_ hs hn
  cases hf : gs.find? (fun g => g.at_ s n) with
  | none =>
    rw [hf] at e
    have h1 := (e (.lit (.bool true))).symm.trans (hat (.lit (.bool true)))
    rcases ho.datum (H := Unit) with ⟨e3, _⟩ | e3
    · simp only at h1; rw [e3] at h1; cases h1
    · simp only at h1; rw [e3] at h1; cases h1
  | some g =>
    have hg := List.mem_of_find?_eq_some hf
    have hga : g.at_ s n = true := List.find?_some (p := fun g : Gr => g.at_ s n) hf
    obtain ⟨rfl, rfl⟩ := of_decide_eq_true hga
    have hv := h.vals hs hn ((e .nil).symm ▸ (by have := hat .nil; rw [e .nil] at this; exact this)) ho
    refine ⟨g, hg, rfl, rfl, rfl, ?_⟩
    have : zs = g.vs := by rw [hv]; unfold valsAt; rw [hf]
    rw [← this]; exact ho
theorem ownsMap_of_groups {w : World} {base b n : Nat} {D : DataW Unit} (h : w.ownsGroups Try.prog 71 base 3 .i64 b n D) : w.ownsMap Try.prog 71 (rowElem w base 3 .i64) b n D := by
  obtain ⟨es, clock, h1, F, h3, h4, _⟩ := h
  exact ⟨es, clock, h1, F, h3, h4⟩
theorem gr_rc_ok {gs : List Gr} {D : DataW Unit} (h : RepV D gs) : ∀ g ∈ gs, (ofL g.vs).Fit := fun g hg => Ag.Fit.of ((h.ok g hg).vs)
end Go.Proofs.Ytcmlfepmgiikpaa
