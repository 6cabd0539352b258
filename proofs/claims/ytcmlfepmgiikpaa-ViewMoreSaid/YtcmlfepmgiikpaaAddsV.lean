/-
  In whatever order records come a table is the same: plain laws.
-/
import Derived.Test.YtcmlfepmgiikpaaTotV
import Derived.Test.YtcmlfepmgiikpaaRecRowV
import Derived.Test.YtcmlfepmgiikpaaStructs
namespace Go.Proofs.Ytcmlfepmgiikpaa
open Go.RowKit Go.Maps

theorem addL_perm {rs ks : List Rc} (h : rs.Perm ks) (hok : ∀ r ∈ rs, r.ag.Ok) : addL 1 [] rs = addL 1 [] ks := by
  have hok2 : ∀ r ∈ ks, r.ag.Ok := fun r hr => hok r (h.mem_iff.2 hr)
  have sub : ∀ {rs ks : List Rc}, rs.Perm ks → ∀ r ∈ addL 1 [] rs, ∃ s ∈ addL 1 [] ks, s.nm = r.nm ∧ s.st = r.st := by
    intro rs ks h r hr
    rcases mem_addL hr with hr | ⟨x, hx, hxr, h1, h2⟩
    · cases hr
    · obtain ⟨s, hs, h3, h4⟩ := some_addL (ev := 1) (rs := ks) (l := []) (z := x) (.inr ⟨h.mem_iff.1 hx, hxr⟩)
      exact ⟨s, hs, h3.trans h1.symm, h4.trans h2.symm⟩
  refine tab_ext (tab_addL .nil hok) (tab_addL .nil hok2) (sub h) (sub h.symm) fun s n => ?_
  rw [tot_addL _ (atP_of s n) .nil hok, tot_addL _ (atP_of s n) .nil hok2]
  congr 1
  refine tot_perm ((h.filter _).map _) fun a ha => ?_
  obtain ⟨r, hr, rfl⟩ := List.mem_map.1 ha
  obtain ⟨h1, h2⟩ := List.mem_filter.1 hr
  rw [Bool.and_eq_true] at h2
  exact (right_V h2.1 (hok r h1)).good
theorem addN_perm {rs ks : List Rc} (h : rs.Perm ks) : addN 1 rs = addN 1 ks := h.countP_eq _
theorem swap_perm (l : List Rc) (a b : Nat) (ha : a < l.length) (hb : b < l.length) : ((l.set a l[b]).set b l[a]).Perm l := List.set_set_perm ha hb
/-- A place of a list out of whatever number. -/
theorem place_bd (z : Int) (n : Nat) (hn : 0 < n) : 0 ≤ (z.tmod n + n).tmod n ∧ (z.tmod n + n).tmod n < n ∧ -(n : Int) < z.tmod n ∧ z.tmod n < n := by
  have h1 := Int.tmod_lt_of_pos z (show (0 : Int) < n by omega)
  have h2 : -(n : Int) < z.tmod n := by
    have := Int.tmod_lt_of_pos (-z) (show (0 : Int) < n by omega)
    rw [Int.neg_tmod] at this
    omega
  exact ⟨Int.tmod_nonneg _ (by omega), Int.tmod_lt_of_pos _ (by omega), h2, h1⟩
/-- A list of records in memory that the call has made. -/
def MRow (w : World) (B : Nat) (v : Value) (n : Nat) (ms : List Rc) : Prop := ms.length = n ∧ w.ownsRow B 50 7 v n (ms.flatMap Rc.cells)
theorem MRow.kept {w w' : World} {B n : Nat} {v : Value} {ms : List Rc} {row : Option Nat} (h : MRow w B v n ms) (hg : w.grownBy w' row) (hr : ∀ k, v.ownBlock = some k → some k ≠ row) : MRow w' B v n ms := by
  refine ⟨h.1, h.2.kept hg ?_⟩
  cases hv : v.ownBlock with
  | none => exact .inl rfl
  | some k => exact .inr (hr k hv)
theorem MRow.below {w w' : World} {B n : Nat} {v : Value} {ms : List Rc} (h : MRow w B v n ms) (hb : Below w.heap.size w w') : MRow w' B v n ms := h.kept (grown_of_below hb none) (fun _ _ => by simp)
theorem MRow.row {w : World} {B n : Nat} {v : Value} {ms : List Rc} (h : MRow w B v n ms) (h0 : 0 < n) : ∃ g c, v = .slice (some ⟨g, 0, none⟩) n c ∧ B ≤ g ∧ RowAt w g c ms := by
  obtain ⟨rfl, h2⟩ := h
  rcases h2.2 with ⟨rfl, h1⟩ | ⟨g, cap, cur, rfl, hb, h1, h2, h3, h4, h5⟩
  · omega
  · exact ⟨g, cap, rfl, hb, ⟨cur, h1, h2, h3, h4, h5⟩⟩
theorem MRow.of_row {w : World} {B g c : Nat} {ms : List Rc} (h : RowAt w g c ms) (hB : B ≤ g) : MRow w B (.slice (some ⟨g, 0, none⟩) ms.length c) ms.length ms := ⟨rfl, h.own hB⟩
theorem MRow.rcs {w : World} {B n : Nat} {v : Value} {ms : List Rc} (h : MRow w B v n ms) (hok : ∀ r ∈ ms, r.nm.size ≤ maxLen ∧ (Lit.int .i64 r.st).wf = true ∧ r.ag.Ok) (hn : n ≤ maxLen) : ∃ A c, v = .slice A n c ∧ Rcs w A n ms := by
  obtain ⟨rfl, h2⟩ := h
  rcases h2.2 with ⟨rfl, h1⟩ | ⟨g, cap, cur, rfl, hb, h1, _⟩
  · have : ms = [] := List.eq_nil_of_length_eq_zero h1
    subst this
    exact ⟨none, 0, rfl, Sl.nil _ _, rfl, hn, by simp, by simp, by simp⟩
  · refine ⟨some ⟨g, 0, none⟩, cap, rfl, ⟨fun hne => ⟨g, 0, rfl, lt_of_block h1, fun j u hu => ?_⟩⟩, rfl, hn, fun r hr => (hok r hr).1, fun r hr => (hok r hr).2.1, fun r hr => (hok r hr).2.2⟩
    have hj := (List.getElem?_eq_some_iff.1 hu).1
    rw [rowK_len rc_len] at hj
    rw [Nat.zero_add, h2.cellAt j hj]
    exact hu
theorem rcs_cells {w : World} {a : Addr} {n : Nat} {l : List Rc} (h : Rcs w (some a) n l) : ∀ j u, (l.flatMap Rc.cells)[j]? = some u → w.cell? (a.add j) = some u := by
  intro j u hu
  obtain ⟨b, off, e, _, hc⟩ := h.sl.at_ (fun e => by rw [e] at hu; simp at hu)
  cases e
  rw [addr_add]
  exact hc j u hu
theorem rows_oneCell (l : List Rc) : ∀ u ∈ l.flatMap Rc.cells, u.oneCell' = true := by
  intro u hu
  obtain ⟨r, _, hr⟩ := List.mem_flatMap.1 hu
  exact one_cells r u hr
end Go.Proofs.Ytcmlfepmgiikpaa
