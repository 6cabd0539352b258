/-
  Several texts in one: RowsV, RecRowV, Structs, AddsV.
-/
import Derived.Test.YtcglbbabfkbcbadGreatM6
import Derived.Lib.SliceRun
import Derived.Test.YtcglbbabfkbcbadGreatM1
import Derived.Deep.Slices
import Derived.Deep.Fields
import Derived.ChangeSame
import Derived.Test.YtcglbbabfkbcbadGreatTotV
/- A row of the call's own as a slice of records. -/
namespace Go.Proofs.YtcglbbabfkbcbadGreat
open Go.RowKit Go.Maps

theorem own_rcs {w : World} {B : Nat} {v : Value} {l : List Rc} (h : w.ownsRow B 61 7 v l.length (l.flatMap Rc.cells)) (hok : ∀ r ∈ l, r.Ok) (hn : l.length ≤ maxLen) :
    ∃ A c, v = .slice A l.length c ∧ Rcs w A l.length l := by
  have hnm : ∀ r ∈ l, r.nm.size ≤ maxLen := fun r hr => (hok r hr).nm
  have hst : ∀ r ∈ l, (Lit.int .i64 r.st).wf = true := fun r hr => (hok r hr).st
  have hag : ∀ r ∈ l, r.ag.Ok := fun r hr => (hok r hr).ag.ok
  rcases h.2 with ⟨rfl, he⟩ | ⟨g, cap, cur, rfl, _, hg, _, _, _, ht⟩
  · refine ⟨none, 0, by rw [he], ⟨?_, rfl, hn, hnm, hst, hag⟩⟩
    rw [List.eq_nil_of_length_eq_zero he]; exact Sl.nil _ _
  · refine ⟨some ⟨g, 0, none⟩, cap, rfl, ⟨⟨fun _ => ⟨g, 0, rfl, lt_of_block hg, fun j u hu => ?_⟩⟩, rfl, hn, hnm, hst, hag⟩⟩
    have hj : j < l.length * 7 := by have := (List.getElem?_eq_some_iff.1 hu).1; rwa [rowK_len rc_len] at this
    rw [Nat.zero_add, h.cellAt j hj]
    exact hu
theorem Rcs.keepB {w w' : World} {A : Option Addr} {n b0 : Nat} {l : List Rc} (h : Rcs w A n l) (hm : ∀ o, w.cell? ⟨b0, o, none⟩ = none) (hg : w.grownBy w' (some b0)) : Rcs w' A n l := by
  refine ⟨⟨fun hne => ?_⟩, h.len, h.n_le, h.nm, h.st, h.ok⟩
  obtain ⟨b, off, e, hb, hc⟩ := h.sl.at_ hne
  have hbm : b ≠ b0 := by
    intro e2
    subst e2
    cases hx : l.flatMap Rc.cells with
    | nil => exact hne hx
    | cons u r =>
      have := hc 0 u (by rw [hx]; rfl)
      rw [hm] at this; cases this
  exact ⟨b, off, e, Nat.lt_of_lt_of_le hb hg.size, fun j u hu => hg.cell (hc j u hu) (fun e3 => hbm (by injection e3))⟩
theorem Rcs.below {w w' : World} {A : Option Addr} {n : Nat} {l : List Rc} (h : Rcs w A n l) (hb : Below w.heap.size w w') : Rcs w' A n l := ⟨h.sl.below hb, h.len, h.n_le, h.nm, h.st, h.ok⟩
end Go.Proofs.YtcglbbabfkbcbadGreat
/- A row of records in a block of the call's own, written in place. -/
namespace Go.Proofs.YtcglbbabfkbcbadGreat
open Go.RowKit Go.Maps Go.Sort

structure RowAt (w : World) (g cap : Nat) (R : List Rc) : Prop where
  at_ : ∃ cur, w.heap[g]? = some (.cells cur 61 (0, 0)) ∧ R.length ≤ cap ∧ cap ≤ maxLen ∧ cur.size = cap * 7 ∧ cur.toList.take (R.length * 7) = R.flatMap Rc.cells
theorem RowAt.lt {w : World} {g cap : Nat} {R : List Rc} (h : RowAt w g cap R) : g < w.heap.size := by obtain ⟨_, h1, _⟩ := h.at_; exact lt_of_block h1
theorem RowAt.le {w : World} {g cap : Nat} {R : List Rc} (h : RowAt w g cap R) : R.length ≤ cap := by obtain ⟨_, _, h1, _⟩ := h.at_; exact h1
theorem RowAt.own {w : World} {g cap B : Nat} {R : List Rc} (h : RowAt w g cap R) (hB : B ≤ g) : w.ownsRow B 61 7 (.slice (some ⟨g, 0, none⟩) R.length cap) R.length (R.flatMap Rc.cells) := by
  obtain ⟨cur, h1, h2, h3, h4, h5⟩ := h.at_
  exact ⟨rowK_len rc_len R, .inr ⟨g, cap, cur, rfl, hB, h1, h2, h3, h4, h5⟩⟩
theorem RowAt.kept {w w' : World} {g cap : Nat} {R : List Rc} {row : Option Nat} (h : RowAt w g cap R) (hg : w.grownBy w' row) (hne : some g ≠ row) : RowAt w' g cap R := by
  obtain ⟨cur, h1, h2⟩ := h.at_
  exact ⟨cur, (hg.block g h.lt hne).trans h1, h2⟩
theorem RowAt.get {w : World} {g cap : Nat} {R : List Rc} (h : RowAt w g cap R) {j : Nat} (hj : j < R.length) : RcCells w g (j * 7) R[j] := by
  have ho := h.own (Nat.zero_le g)
  have key : ∀ q, q < 7 → w.cell? ⟨g, j * 7 + q, none⟩ = R[j].cells[q]? := fun q hq => by
    rw [ho.cellAt (j * 7 + q) (by omega), rowK_get rc_len R j hj q hq]
  exact ⟨key 0 (by omega), key 1 (by omega), key 2 (by omega), key 3 (by omega), key 4 (by omega), key 5 (by omega), key 6 (by omega)⟩
theorem RowAt.free {w : World} {g cap : Nat} {R : List Rc} (h : RowAt w g cap R) (o : Nat) : w.frozen? ⟨g, o, none⟩ = false := by
  obtain ⟨cur, h1, _⟩ := h.at_
  exact frozen_of_row w g o _ _ h1
theorem heap_setCells (g : Nat) (T : TypeId) : ∀ (vs : List Value) (o : Nat) (w : World) (cs : Array Value), w.heap[g]? = some (.cells cs T (0, 0)) → (w.setCells g o vs).heap[g]? = some (.cells (setMany cs o vs) T (0, 0))
  | [], _, _, _, h => h
  | v :: r, o, w, cs, h => heap_setCells g T r (o + 1) _ _ (heap_setCell_same w g o cs T v h)
theorem grown_setCells (g : Nat) : ∀ (vs : List Value) (o : Nat) (w : World), w.grownBy (w.setCells g o vs) (some g)
  | [], _, w => World.grownBy.refl w _
  | v :: r, o, w => by
    have h1 : w.grownBy (w.setCell ⟨g, o, none⟩ v) (some g) := ⟨rfl, rfl, rfl, by simp, fun k hk hne => Below.heap_setCell w _ v k (fun e => hne (by rw [e]))⟩
    exact h1.andThen (grown_setCells g r (o + 1) _) (fun j hj => by cases hj; exact Or.inr rfl)
theorem take_setMany (cs : Array Value) (o : Nat) (vs : List Value) (n : Nat) (h : n ≤ o) : (setMany cs o vs).toList.take n = cs.toList.take n := by
  apply List.ext_getElem?
  intro t
  by_cases ht : t < n
  · rw [List.getElem?_take_of_lt ht, List.getElem?_take_of_lt ht, Array.getElem?_toList, Array.getElem?_toList]
    by_cases hc : t < cs.size
    · have := get_setMany vs o cs t hc
      rw [if_neg (by omega)] at this
      rw [Array.getElem?_eq_getElem (by simpa using hc), Array.getElem?_eq_getElem hc, ← getElem!_pos _ t (by simpa using hc), ← getElem!_pos _ t hc, this]
    · rw [Array.getElem?_eq_none (by simp; omega), Array.getElem?_eq_none (by omega)]
  · rw [List.getElem?_take_eq_none (by omega), List.getElem?_take_eq_none (by omega)]
theorem RowAt.set {w : World} {g cap : Nat} {R : List Rc} (h : RowAt w g cap R) (i : Nat) (x : Rc) : RowAt (w.setCells g (i * 7) x.cells) g cap (R.set i x) := by
  obtain ⟨cur, h1, h2, h3, h4, h5⟩ := h.at_
  refine ⟨_, heap_setCells g _ _ _ _ _ h1, by simpa using h2, h3, by simpa using h4, ?_⟩
  rw [List.length_set]
  apply List.ext_getElem?
  intro t
  by_cases ht : t < R.length * 7
  · have hts : t < cur.size := by rw [h4]; exact Nat.lt_of_lt_of_le ht (Nat.mul_le_mul_right _ h2)
    have hj : t / 7 < R.length := by omega
    have hq : t % 7 < 7 := Nat.mod_lt _ (by omega)
    have e1 := rowK_get rc_len (R.set i x) (t / 7) (by simpa using hj) (t % 7) hq
    rw [Nat.div_add_mod' t 7] at e1
    have e2 := rowK_get rc_len R (t / 7) hj (t % 7) hq
    rw [Nat.div_add_mod' t 7, ← h5, List.getElem?_take_of_lt ht, Array.getElem?_toList] at e2
    rw [List.getElem?_take_of_lt ht, Array.getElem?_toList, e1]
    have e3 := get_setMany x.cells (i * 7) cur t hts
    rw [Array.getElem?_eq_getElem (by simpa using hts), ← getElem!_pos _ t (by simpa using hts), e3, rc_len]
    by_cases hr : i * 7 ≤ t ∧ t < i * 7 + 7
    · rw [if_pos hr]
      have ei : i = t / 7 := by omega
      have em : t - i * 7 = t % 7 := by omega
      rw [em, List.getElem_set, if_pos ei, getElem!_pos _ _ (by rw [rc_len]; exact hq), List.getElem?_eq_getElem (by rw [rc_len]; exact hq)]
    · rw [if_neg hr, List.getElem_set, if_neg (by omega), ← e2, Array.getElem?_eq_getElem hts, getElem!_pos _ t hts]
  · rw [List.getElem?_take_eq_none (by omega), List.getElem?_eq_none (by rw [rowK_len rc_len]; simp; omega)]
/-- What lies ahead of what is written stays. -/
theorem RowAt.cut {w : World} {g cap : Nat} {R : List Rc} (h : RowAt w g cap R) (i : Nat) (hi : i ≤ R.length) (vs : List Value) : RowAt (w.setCells g (i * 7) vs) g cap (R.take i) := by
  obtain ⟨cur, h1, h2, h3, h4, h5⟩ := h.at_
  have hl : (R.take i).length = i := by rw [List.length_take]; omega
  refine ⟨_, heap_setCells g _ _ _ _ _ h1, by omega, h3, by simpa using h4, ?_⟩
  rw [hl, take_setMany _ _ _ _ (Nat.le_refl _)]
  have e : cur.toList.take (i * 7) = (cur.toList.take (R.length * 7)).take (i * 7) := by rw [List.take_take, Nat.min_eq_left (Nat.mul_le_mul_right _ hi)]
  rw [e, h5]
  conv => lhs; rw [← List.take_append_drop i R]
  rw [List.flatMap_append]
  have hll := rowK_len rc_len (R.take i)
  rw [hl] at hll
  rw [← hll, List.take_left']
  rfl
theorem zero_rec (w : World) : (zeroValue 61).run Tryz.prog w = .ok (.agg #[.string ByteArray.empty, .int .i64 0, .int .i64 0, .int .i64 0, .int .u64 0, .int .i64 0, .int .i64 0]) w := by kernel_rfl
theorem clear_cells {P : Program} (w : World) (t e ty : TypeId) (z : Value) (ht : P.underlying t = some (.slice e)) (hv : ∀ w, (zeroValue e).run P w = .ok z w) (b o n c : Nat) (hn : 0 < n) (vs : List Value) (hvs : (Builtin.zeroCells z.cells n).toList = vs)
    (hst : (storeCells ⟨b, o, none⟩ vs 0).run P w = .ok () (w.setCells b o vs)) : (Builtin.clear_ #[t] ty #[.slice (some ⟨b, o, none⟩) n c]).run P w = .ok (.tuple #[]) (w.setCells b o vs) := by
  obtain ⟨m, rfl⟩ : ∃ m, n = m + 1 := ⟨n - 1, by omega⟩
  simp [Builtin.clear_, run_underlying ht, hv, hvs, hst]
/-- 'clear' of the end of a row. -/
theorem clear_row {w : World} {g cap : Nat} {R : List Rc} (h : RowAt w g cap R) (i : Nat) (hi : i < R.length) (c : Nat) (ty : TypeId) :
    ∃ vs, (Builtin.clear_ #[49] ty #[.slice (some ⟨g, i * 7, none⟩) (R.length - i) c]).run Tryz.prog w = .ok (.tuple #[]) (w.setCells g (i * 7) vs) := by
  obtain ⟨z, hz⟩ : ∃ z : Value, z = .agg #[.string ByteArray.empty, .int .i64 0, .int .i64 0, .int .i64 0, .int .u64 0, .int .i64 0, .int .i64 0] := ⟨_, rfl⟩
  have hzc : z.cells = #[.string ByteArray.empty, .int .i64 0, .int .i64 0, .int .i64 0, .int .u64 0, .int .i64 0, .int .i64 0] := by rw [hz]; rfl
  obtain ⟨vs, hvs⟩ : ∃ vs, vs = (Builtin.zeroCells z.cells (R.length - i)).toList := ⟨_, rfl⟩
  have hlen : vs.length = (R.length - i) * 7 := by rw [hvs]; simp [Builtin.zeroCells, hzc]
  have hone : ∀ v ∈ vs, v.oneCell' = true := by
    intro v hv
    rw [hvs, hzc] at hv
    simp [Builtin.zeroCells] at hv
    obtain ⟨t, _, rfl⟩ := hv
    have hm : t % 7 < 7 := Nat.mod_lt _ (by omega)
    generalize t % 7 = q at hm ⊢
    match q, hm with
    | 0, _ => rfl
    | 1, _ => rfl
    | 2, _ => rfl
    | 3, _ => rfl
    | 4, _ => rfl
    | 5, _ => rfl
    | 6, _ => rfl
  have ho := h.own (Nat.zero_le g)
  have hst := run_storeCells_cells (P := Tryz.prog) g (i * 7) vs 0 w (fun j hj => by
    rw [Nat.add_zero, ho.cellAt (i * 7 + j) (by omega), List.getElem?_eq_getElem (by rw [rowK_len rc_len]; omega)]; rfl) (fun j hj => h.free _) hone
  refine ⟨vs, ?_⟩
  simp only [Nat.add_zero] at hst
  exact clear_cells w _ _ ty z Tryz.underlying49 (fun W => by rw [hz]; exact zero_rec W) g (i * 7) _ c (by omega) vs hvs.symm hst
end Go.Proofs.YtcglbbabfkbcbadGreat
/- Slices of structs that came in: what lies at each place. -/
namespace Go.Proofs.YtcglbbabfkbcbadGreat
open Go.ChangeShapes Go.WideShapes Go.Deep Go.RowKit

theorem exists_list {α : Type} {P : Nat → α → Prop} : ∀ (n : Nat), (∀ i, i < n → ∃ x, P i x) → ∃ l : List α, l.length = n ∧ ∀ i (h : i < l.length), P i l[i]
  | 0, _ => ⟨[], rfl, fun i h => by simp at h⟩
  | n + 1, h => by
    obtain ⟨l, hl, hp⟩ := exists_list n (fun i hi => h i (by omega))
    obtain ⟨x, hx⟩ := h n (by omega)
    refine ⟨l ++ [x], by simp [hl], fun i hi => ?_⟩
    by_cases e : i < l.length
    · rw [List.getElem_append_left e]; exact hp i e
    · have : i = l.length := by simp at hi; omega
      subst this
      simp [hl] at hx ⊢; exact hx
theorem addr_add (b off k : Nat) : (⟨b, off, none⟩ : Addr).add k = ⟨b, off + k, none⟩ := by
  unfold Addr.add
  split
  · next e => subst e; rfl
  · rfl
section
variable {H : Type} {enc : TypeId × Value → H} {P : Program} {w : World} {base : Nat} {spare : Nat → Bool} {held : Bool}
/-- What lies at each place of a slice: the cells, and that they read as an element. -/
theorem rows_of_open {t e : TypeId} {A : Option Addr} {n c : Nat} {d : DataW H} {p : List MemPlace} (ht : P.underlying t = some (.slice e)) (hC : 0 < P.cellsOf e)
    (h : DataW.Trod enc P w base spare held t (.slice A n c) d p) : n ≤ maxLen ∧ ∀ i, i < n → ∃ b off cs m y, A = some ⟨b, off, none⟩ ∧ b < w.heap.size ∧ cs.length = P.cellsOf e ∧
      (∀ j u, cs[j]? = some u → w.cell? ⟨b, off + (i * P.cellsOf e + j), none⟩ = some u) ∧ DataW.trod enc P w base spare held m e cs = some y := by
  obtain ⟨fuel, hf⟩ := h
  rcases open_slice ht hf with ⟨hcs, _⟩ | ⟨a, len, cap, m, k, D, Pl, hcs, _, hl, hm, hmm, _, hi⟩
  · simp [Value.cells] at hcs
    obtain ⟨rfl, rfl, rfl⟩ := hcs
    exact ⟨by decide, fun i hi => absurd hi (by omega)⟩
  · simp [Value.cells] at hcs
    obtain ⟨rfl, rfl, rfl⟩ := hcs
    refine ⟨by omega, fun i hin => ?_⟩
    have hs : a.spot = none := by
      obtain ⟨cs, hc, _⟩ := hi 0 (by rw [hmm]; split <;> omega)
      obtain ⟨_, hcl, hat⟩ := World.cells?_some hc
      have h0 := hat 0 hC
      rw [List.getElem?_eq_getElem (by omega)] at h0
      have := World.cell?_spot h0
      simpa [Addr.add] using this
    obtain ⟨b, off, sp⟩ := a
    simp only at hs
    subst hs
    obtain ⟨cs, hc, hty⟩ := hi i (by rw [hmm]; split <;> omega)
    obtain ⟨_, hcl, hat⟩ := World.cells?_some hc
    have h0 := hat 0 hC
    rw [List.getElem?_eq_getElem (by omega), addr_add, addr_add] at h0
    refine ⟨b, off, cs, k, _, rfl, block_lt_of_cell h0, hcl, fun j u hj => ?_, hty⟩
    have hjl : j < cs.length := (List.getElem?_eq_some_iff.1 hj).1
    have := hat j (by omega)
    rw [hj, addr_add, addr_add, Nat.add_assoc] at this
    exact this
end
end Go.Proofs.YtcglbbabfkbcbadGreat
/- In whatever order records come a table is the same: plain laws. -/
namespace Go.Proofs.YtcglbbabfkbcbadGreat
open Go.RowKit Go.Maps

theorem addL_perm {rs ks : List Rc} (h : rs.Perm ks) (hok : ∀ r ∈ rs, r.ag.Ok) : addL 1 [] rs = addL 1 [] ks := by
  have hok2 : ∀ r ∈ ks, r.ag.Ok := fun r hr => hok r (h.mem_iff.2 hr)
  have sub : ∀ {rs ks : List Rc}, rs.Perm ks → ∀ r ∈ addL 1 [] rs, ∃ s ∈ addL 1 [] ks, s.nm = r.nm ∧ s.st = r.st := by
    intro rs ks h r hr
    rcases mem_addL hr with hr | ⟨x, hx, hxr, h1, h2⟩
    · cases hr
    · obtain ⟨s, hs, h3, h4⟩ := some_addL (ev := 1) (rs := ks) (l := []) (z := x) (.inr ⟨h.mem_iff.1 hx, hxr⟩)
      exact ⟨s, hs, h3.trans h1.symm, h4.trans h2.symm⟩
  refine tab_ext (tab_addL .nil hok) (tab_addL .nil hok2) (sub h) (sub h.symm) fun s n => ?_
  rw [tot_addL _ (atP_of s n) .nil hok, tot_addL _ (atP_of s n) .nil hok2]
  congr 1
  refine tot_perm ((h.filter _).map _) fun a ha => ?_
  obtain ⟨r, hr, rfl⟩ := List.mem_map.1 ha
  obtain ⟨h1, h2⟩ := List.mem_filter.1 hr
  rw [Bool.and_eq_true] at h2
  exact (right_V h2.1 (hok r h1)).good
theorem addN_perm {rs ks : List Rc} (h : rs.Perm ks) : addN 1 rs = addN 1 ks := h.countP_eq _
theorem swap_perm (l : List Rc) (a b : Nat) (ha : a < l.length) (hb : b < l.length) : ((l.set a l[b]).set b l[a]).Perm l := List.set_set_perm ha hb
/-- A place of a list out of whatever number. -/
theorem place_bd (z : Int) (n : Nat) (hn : 0 < n) : 0 ≤ (z.tmod n + n).tmod n ∧ (z.tmod n + n).tmod n < n ∧ -(n : Int) < z.tmod n ∧ z.tmod n < n := by
  have h1 := Int.tmod_lt_of_pos z (show (0 : Int) < n by omega)
  have h2 : -(n : Int) < z.tmod n := by
    have := Int.tmod_lt_of_pos (-z) (show (0 : Int) < n by omega)
    rw [Int.neg_tmod] at this
    omega
  exact ⟨Int.tmod_nonneg _ (by omega), Int.tmod_lt_of_pos _ (by omega), h2, h1⟩
/-- A list of records in memory that the call has made. -/
def MRow (w : World) (B : Nat) (v : Value) (n : Nat) (ms : List Rc) : Prop := ms.length = n ∧ w.ownsRow B 61 7 v n (ms.flatMap Rc.cells)
theorem MRow.kept {w w' : World} {B n : Nat} {v : Value} {ms : List Rc} {row : Option Nat} (h : MRow w B v n ms) (hg : w.grownBy w' row) (hr : ∀ k, v.ownBlock = some k → some k ≠ row) : MRow w' B v n ms := by
  refine ⟨h.1, h.2.kept hg ?_⟩
  cases hv : v.ownBlock with
  | none => exact .inl rfl
  | some k => exact .inr (hr k hv)
theorem MRow.below {w w' : World} {B n : Nat} {v : Value} {ms : List Rc} (h : MRow w B v n ms) (hb : Below w.heap.size w w') : MRow w' B v n ms := h.kept (grown_of_below hb none) (fun _ _ => by simp)
theorem MRow.row {w : World} {B n : Nat} {v : Value} {ms : List Rc} (h : MRow w B v n ms) (h0 : 0 < n) : ∃ g c, v = .slice (some ⟨g, 0, none⟩) n c ∧ B ≤ g ∧ RowAt w g c ms := by
  obtain ⟨rfl, h2⟩ := h
  rcases h2.2 with ⟨rfl, h1⟩ | ⟨g, cap, cur, rfl, hb, h1, h2, h3, h4, h5⟩
  · omega
  · exact ⟨g, cap, rfl, hb, ⟨cur, h1, h2, h3, h4, h5⟩⟩
theorem MRow.of_row {w : World} {B g c : Nat} {ms : List Rc} (h : RowAt w g c ms) (hB : B ≤ g) : MRow w B (.slice (some ⟨g, 0, none⟩) ms.length c) ms.length ms := ⟨rfl, h.own hB⟩
theorem MRow.rcs {w : World} {B n : Nat} {v : Value} {ms : List Rc} (h : MRow w B v n ms) (hok : ∀ r ∈ ms, r.nm.size ≤ maxLen ∧ (Lit.int .i64 r.st).wf = true ∧ r.ag.Ok) (hn : n ≤ maxLen) : ∃ A c, v = .slice A n c ∧ Rcs w A n ms := by
  obtain ⟨rfl, h2⟩ := h
  rcases h2.2 with ⟨rfl, h1⟩ | ⟨g, cap, cur, rfl, hb, h1, _⟩
  · have : ms = [] := List.eq_nil_of_length_eq_zero h1
    subst this
    exact ⟨none, 0, rfl, Sl.nil _ _, rfl, hn, by simp, by simp, by simp⟩
  · refine ⟨some ⟨g, 0, none⟩, cap, rfl, ⟨fun hne => ⟨g, 0, rfl, lt_of_block h1, fun j u hu => ?_⟩⟩, rfl, hn, fun r hr => (hok r hr).1, fun r hr => (hok r hr).2.1, fun r hr => (hok r hr).2.2⟩
    have hj := (List.getElem?_eq_some_iff.1 hu).1
    rw [rowK_len rc_len] at hj
    rw [Nat.zero_add, h2.cellAt j hj]
    exact hu
theorem rcs_cells {w : World} {a : Addr} {n : Nat} {l : List Rc} (h : Rcs w (some a) n l) : ∀ j u, (l.flatMap Rc.cells)[j]? = some u → w.cell? (a.add j) = some u := by
  intro j u hu
  obtain ⟨b, off, e, _, hc⟩ := h.sl.at_ (fun e => by rw [e] at hu; simp at hu)
  cases e
  rw [addr_add]
  exact hc j u hu
theorem rows_oneCell (l : List Rc) : ∀ u ∈ l.flatMap Rc.cells, u.oneCell' = true := by
  intro u hu
  obtain ⟨r, _, hr⟩ := List.mem_flatMap.1 hu
  exact one_cells r u hr
end Go.Proofs.YtcglbbabfkbcbadGreat
