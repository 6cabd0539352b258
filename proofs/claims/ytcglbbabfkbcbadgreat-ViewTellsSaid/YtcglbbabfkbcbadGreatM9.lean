/-
  Several texts in one: Smp, RowsKP.
-/
import Derived.Test.YtcglbbabfkbcbadGreatReach2
import Derived.Test.YtcglbbabfkbcbadGreatM7
import Derived.Test.YtcglbbabfkbcbadGreatGroups
import Derived.Test.YtcglbbabfkbcbadGreatM5
/- Samples: slices of them; which records they make in a tier: plain laws. -/
namespace Go.Proofs.YtcglbbabfkbcbadGreat
open Go.ChangeShapes Go.WideShapes Go.ChangeAt Go.RowKit Go.Deep Go.Maps

theorem wf_i64' {z : Int} (h : -9223372036854775808 ≤ z ∧ z ≤ 9223372036854775807) : (Lit.int .i64 z).wf = true := by
  have : IntKind.i64.min = -9223372036854775808 ∧ IntKind.i64.max = 9223372036854775807 := by decide
  simp [Lit.wf, this.1, this.2, h.1, h.2]
/-- A sample. -/
structure Smp where
  nm : ByteArray
  tm : Int
  vl : Int
def Smp.cells (s : Smp) : List Value := [.string s.nm, .int .i64 s.tm, .int .i64 s.vl]
structure Smp.Ok (s : Smp) : Prop where
  nm : s.nm.size ≤ maxLen
  tm : -9223372036854775808 ≤ s.tm ∧ s.tm ≤ 9223372036854775807
  vl : -9223372036854775808 ≤ s.vl ∧ s.vl ≤ 9223372036854775807
theorem smp_len (s : Smp) : s.cells.length = 3 := rfl
theorem smps_one (l : List Smp) : ∀ u ∈ l.flatMap Smp.cells, u.oneCell' = true := by
  intro u hu
  obtain ⟨r, _, hr⟩ := List.mem_flatMap.1 hu
  simp [Smp.cells] at hr
  rcases hr with rfl | rfl | rfl <;> rfl
structure Smps (w : World) (A : Option Addr) (n : Nat) (l : List Smp) : Prop where
  sl : Sl w A (l.flatMap Smp.cells)
  len : l.length = n
  n_le : n ≤ maxLen
  ok : ∀ s ∈ l, s.Ok
structure SmpCells (w : World) (b off : Nat) (s : Smp) : Prop where
  c0 : w.cell? ⟨b, off, none⟩ = some (.string s.nm)
  c1 : w.cell? ⟨b, off + 1, none⟩ = some (.int .i64 s.tm)
  c2 : w.cell? ⟨b, off + 2, none⟩ = some (.int .i64 s.vl)
theorem Smps.get {w : World} {A : Option Addr} {n : Nat} {l : List Smp} (h : Smps w A n l) {j : Nat} (hj : j < l.length) : ∃ b off, A = some ⟨b, off, none⟩ ∧ b < w.heap.size ∧ SmpCells w b (off + j * 3) l[j] := by
  have hne : l.flatMap Smp.cells ≠ [] := by
    cases l with
    | nil => simp at hj
    | cons a r => simp [Smp.cells]
  obtain ⟨b, off, e, hb, hc⟩ := h.sl.at_ hne
  have g := fun q hq => rowK_get smp_len l j hj q hq
  have c0 := hc (j * 3 + 0) _ (g 0 (by omega))
  have c1 := hc (j * 3 + 1) _ (g 1 (by omega))
  have c2 := hc (j * 3 + 2) _ (g 2 (by omega))
  rw [← Nat.add_assoc] at c1 c2
  exact ⟨b, off, e, hb, c0, c1, c2⟩
theorem Smps.below {w w' : World} {A : Option Addr} {n : Nat} {l : List Smp} (h : Smps w A n l) (hb : Below w.heap.size w w') : Smps w' A n l := ⟨h.sl.below hb, h.len, h.n_le, h.ok⟩
/-- The record that a sample makes in a tier. -/
def itemOf (r : Rch) (i : Int) (s : Smp) : Option Rc := if (r.has i s.tm && validB s.nm.toList) = true then some ⟨s.nm, r.start i s.tm, oneG s.vl⟩ else none
def recsOf (r : Rch) (i : Int) (l : List Smp) : List Rc := l.filterMap (itemOf r i)
/-- A tier's records. -/
noncomputable def viewL (r : Rch) (i : Int) (l : List Smp) : List Rc := addL 1 [] (recsOf r i l)
theorem start_nn (r : Rch) (i t : Int) : 0 ≤ r.start i t := by
  unfold Rch.start
  split
  · next h =>
    unfold flrE
    split
    · exact h.2
    · exact (flr_bd h.2 (by omega)).1
  · omega
theorem start_le (r : Rch) (i t : Int) (ht : 0 ≤ t) : r.start i t ≤ t := by
  unfold Rch.start
  split
  · next h =>
    unfold flrE
    split
    · omega
    · exact (flr_bd h.2 (by omega)).2
  · exact ht
theorem start_bd (r : Rch) (i t : Int) (ht : t ≤ 9223372036854775807) : 0 ≤ r.start i t ∧ r.start i t ≤ 9223372036854775807 := by
  refine ⟨start_nn r i t, ?_⟩
  by_cases h : 0 ≤ t
  · have := start_le r i t h; omega
  · unfold Rch.start; rw [if_neg (fun e => h e.2)]; omega
theorem V_one {v : Int} (h : -9223372036854775808 ≤ v ∧ v ≤ 9223372036854775807) : (oneG v).V := ⟨(Ag.Fit.one h).ok, by unfold validG oneG; simp⟩
theorem item_right {r : Rch} {i : Int} {s : Smp} {x : Rc} (hs : s.Ok) (h : itemOf r i s = some x) : rightR 1 x = true ∧ x.ag.V ∧ x.Ok := by
  unfold itemOf at h
  split at h
  · next e =>
    cases h
    rw [Bool.and_eq_true] at e
    have h1 := start_bd r i s.tm hs.tm.2
    have hV := V_one hs.vl
    refine ⟨?_, hV, hs.nm, wf_i64' (by simp only; omega), Ag.Fit.one hs.vl⟩
    unfold rightR onB
    simp only [Bool.and_eq_true, decide_eq_true_eq]
    exact ⟨⟨⟨e.2, h1.1⟩, by omega, by simp⟩, hV.v⟩
  · cases h
theorem recs_ok {r : Rch} {i : Int} {l : List Smp} (h : ∀ s ∈ l, s.Ok) : ∀ x ∈ recsOf r i l, rightR 1 x = true ∧ x.ag.V ∧ x.Ok := by
  intro x hx
  obtain ⟨s, hs, e⟩ := List.mem_filterMap.1 hx
  exact item_right (h s hs) e
theorem recs_snoc (r : Rch) (i : Int) (l : List Smp) (s : Smp) : recsOf r i (l ++ [s]) = recsOf r i l ++ (itemOf r i s).toList := by
  unfold recsOf
  rw [List.filterMap_append]
  cases h : itemOf r i s <;> simp [h]
theorem recs_len (r : Rch) (i : Int) (l : List Smp) : (recsOf r i l).length ≤ l.length := List.length_filterMap_le _ _
/-- One group: a place, and the values there. -/
structure Gr where
  nm : ByteArray
  st : Int
  vs : List Int
def Gr.rc (g : Gr) : Rc := ⟨g.nm, g.st, ofL g.vs⟩
def grP (g : Gr) : Lit × DataW Unit := (klit g.nm g.st, .slice (lits .i64 g.vs) [])
def Gr.at_ (g : Gr) (s : ByteArray) (n : Int) : Bool := decide (g.nm = s ∧ g.st = n)
structure Gr.Ok (g : Gr) : Prop where
  nm : g.nm.size ≤ maxLen
  st : (Lit.int .i64 g.st).wf = true
  vs : ∀ v ∈ g.vs, (Lit.int .i64 v).wf = true
  some_ : g.vs ≠ []
/-- A map that has just these groups. -/
structure RepV (D : DataW Unit) (gs : List Gr) : Prop where
  perm : ∃ ps, D = .map ps ∧ ps.Perm (gs.map grP)
  ok : ∀ g ∈ gs, g.Ok
  apart : gs.Pairwise (fun a b => ¬ (a.nm = b.nm ∧ a.st = b.st))
theorem RepV.nil : RepV (.map []) [] := ⟨⟨[], rfl, List.Perm.refl _⟩, by simp, List.Pairwise.nil⟩
theorem gklit_iff {g : Gr} (hg : g.Ok) {s : ByteArray} {n : Int} (hs : s.size ≤ maxLen) (hn : (Lit.int .i64 n).wf = true) : klit g.nm g.st = klit s n ↔ g.nm = s ∧ g.st = n :=
  ⟨fun h => klit_inj hg.nm hg.st hs hn h, fun ⟨h1, h2⟩ => by rw [h1, h2]⟩
theorem RepV.keys {D : DataW Unit} {gs : List Gr} (h : RepV D gs) : ∃ ps, D = .map ps ∧ ps.Perm (gs.map grP) ∧ ps.Pairwise (fun p q => p.1 ≠ q.1) := by
  obtain ⟨ps, rfl, hp⟩ := h.perm
  refine ⟨ps, rfl, hp, ?_⟩
  refine (hp.pairwise_iff (fun {_ _} hne => Ne.symm hne)).2 ?_
  rw [List.pairwise_map]
  refine List.Pairwise.imp_of_mem ?_ h.apart
  intro a b ha hb hne e
  exact hne ((gklit_iff (h.ok a ha) (h.ok b hb).nm (h.ok b hb).st).1 e)
/-- The values at a place. -/
def valsAt (gs : List Gr) (s : ByteArray) (n : Int) : List Int := match gs.find? (fun g => g.at_ s n) with | some g => g.vs | none => []
theorem RepV.at_ {D : DataW Unit} {gs : List Gr} (h : RepV D gs) {s : ByteArray} {n : Int} (hs : s.size ≤ maxLen) (hn : (Lit.int .i64 n).wf = true) (z : DataW Unit) :
    D.atKey (klit s n) z = match gs.find? (fun g => g.at_ s n) with | some g => .slice (lits .i64 g.vs) [] | none => z := by
  obtain ⟨ps, rfl, hp, hap⟩ := h.keys
  cases hf : gs.find? (fun g => g.at_ s n) with
  | none =>
    refine WideAt.atKey_none z (fun p hpm e => ?_)
    obtain ⟨g, hg, rfl⟩ := List.mem_map.1 (hp.mem_iff.1 hpm)
    have := List.find?_eq_none.1 hf g hg
    exact this (decide_eq_true ((gklit_iff (h.ok g hg) hs hn).1 e))
  | some g =>
    have hg := List.mem_of_find?_eq_some hf
    have hat : g.at_ s n = true := List.find?_some (p := fun g : Gr => g.at_ s n) hf
    obtain ⟨rfl, rfl⟩ := of_decide_eq_true hat
    exact WideAt.atKey_mem z (place_law.key (key_mk hs hn)) hap (hp.mem_iff.2 (List.mem_map.2 ⟨g, hg, rfl⟩))
theorem lits_inj {q : IntKind} {a b : List Int} (h : lits (H := Unit) q a = lits q b) : a = b := by
  unfold lits at h
  exact (List.map_inj_right (fun x y e => by cases e; rfl)).1 h
theorem RepV.vals {D : DataW Unit} {gs : List Gr} (h : RepV D gs) {s : ByteArray} {n : Int} (hs : s.size ≤ maxLen) (hn : (Lit.int .i64 n).wf = true) {w : World} {base : Nat} {e : TypeId} {v : Value} {zs : List Int} (hat : D.atKey (klit s n) .nil = rowDatum .i64 v zs) (ho : w.ownsInts base e .i64 v zs) : zs = valsAt gs s n := by
  rw [h.at_ hs hn] at hat
  unfold valsAt
  cases hf : gs.find? (fun g => g.at_ s n) with
  | none =>
    rw [hf] at hat
    rcases ho.datum (H := Unit) with ⟨_, e1⟩ | e1
    · exact e1
    · rw [e1] at hat; cases hat
  | some g =>
    rw [hf] at hat
    rcases ho.datum (H := Unit) with ⟨e1, _⟩ | e1
    · rw [e1] at hat; cases hat
    · rw [e1] at hat
      simp only [DataW.slice.injEq] at hat
      exact (lits_inj hat.1).symm
/-- One value more at a place. -/
def putG (gs : List Gr) (s : ByteArray) (n v : Int) : List Gr := ⟨s, n, valsAt gs s n ++ [v]⟩ :: gs.filter fun g => !g.at_ s n
theorem RepV.put {D : DataW Unit} {gs : List Gr} (h : RepV D gs) {s : ByteArray} {n v : Int} (hs : s.size ≤ maxLen) (hn : (Lit.int .i64 n).wf = true) (hv : (Lit.int .i64 v).wf = true) :
    RepV (D.put (klit s n) (.slice (lits .i64 (valsAt gs s n ++ [v])) [])) (putG gs s n v) := by
  obtain ⟨ps, rfl, hp⟩ := h.perm
  refine ⟨?_, fun g hg => ?_, ?_⟩
  · refine ⟨_, by unfold DataW.put; rfl, ?_⟩
    refine (WideShapes.insert_perm _ _).trans ?_
    unfold putG
    rw [List.map_cons]
    refine List.Perm.cons _ ?_
    refine (hp.filter _).trans ?_
    rw [List.filter_map]
    refine List.Perm.of_eq ?_
    congr 1
    apply List.filter_congr
    intro g hg
    show (!(klit g.nm g.st).sameKey (klit s n)) = !g.at_ s n
    congr 1
    rw [Bool.eq_iff_iff]
    unfold Gr.at_
    rw [decide_eq_true_iff]
    exact same_klit.trans (gklit_iff (h.ok g hg) hs hn)
  · rcases List.mem_cons.1 hg with rfl | hg
    · refine ⟨hs, hn, fun x hx => ?_, by simp⟩
      rcases List.mem_append.1 hx with hx | hx
      · unfold valsAt at hx
        split at hx
        · next g hf => exact (h.ok g (List.mem_of_find?_eq_some hf)).vs x hx
        · cases hx
      · rw [List.mem_singleton.1 hx]; exact hv
    · exact h.ok g (List.mem_filter.1 hg).1
  · unfold putG
    rw [List.pairwise_cons]
    refine ⟨fun g hg e => ?_, h.apart.filter _⟩
    have := (List.mem_filter.1 hg).2
    unfold Gr.at_ at this
    rw [decide_eq_true ⟨e.1.symm, e.2.symm⟩] at this
    cases this
/-- The groups' records, behind one value more. -/
theorem putG_perm {gs : List Gr} {L : List Rc} (hp : (gs.map Gr.rc).Perm L) (hL : Tab L) {s : ByteArray} {n v : Int} (hv : (oneG v).V) (hr : rightR 1 ⟨s, n, oneG v⟩ = true) :
    ((putG gs s n v).map Gr.rc).Perm (addR 1 L ⟨s, n, oneG v⟩) := by
  have hag : agAt L s n = ofL (valsAt gs s n) := by
    unfold valsAt
    cases hf : gs.find? (fun g => g.at_ s n) with
    | none =>
      unfold agAt
      cases hr : findR L s n with
      | none => rfl
      | some x =>
        obtain ⟨hx, rfl, rfl⟩ := findR_some hr
        obtain ⟨g, hg, rfl⟩ := List.mem_map.1 (hp.mem_iff.2 hx)
        exact absurd (decide_eq_true ⟨rfl, rfl⟩) (List.find?_eq_none.1 hf g hg)
    | some g =>
      have hg := List.mem_of_find?_eq_some hf
      have hat : g.at_ s n = true := List.find?_some (p := fun g : Gr => g.at_ s n) hf
      obtain ⟨rfl, rfl⟩ := of_decide_eq_true hat
      have hx : g.rc ∈ L := hp.mem_iff.1 (List.mem_map.2 ⟨g, hg, rfl⟩)
      unfold agAt
      rw [show findR L g.nm g.st = some g.rc from find_mem hL.ord hx]; rfl
  have hm : mergeL [agAt L s n, oneG v] = ofL (valsAt gs s n ++ [v]) := by
    rw [merge_two (agAt_good hL s n) hv, plus_V hv, hag, ofL_snoc]; rfl
  unfold addR
  rw [if_pos hr]
  simp only
  rw [hm]
  refine List.Perm.trans ?_ (putR_perm hL.ord).symm
  unfold putG
  rw [List.map_cons]
  refine List.Perm.cons _ ?_
  refine List.Perm.trans ?_ (hp.filter _)
  rw [List.filter_map]
  refine List.Perm.of_eq ?_
  congr 1
  apply List.filter_congr
  intro g _
  show (!g.at_ s n) = !Rc.same ⟨s, n, _⟩ g.rc
  congr 1
  rw [Bool.eq_iff_iff, Rc.same_iff]
  unfold Gr.at_
  rw [decide_eq_true_iff]
  constructor
  · rintro ⟨h1, h2⟩; exact ⟨h1.symm, h2.symm⟩
  · rintro ⟨h1, h2⟩; exact ⟨h1.symm, h2.symm⟩
/-- How many values the groups have. -/
def gsum (gs : List Gr) : Nat := (gs.map fun g => g.vs.length).sum
theorem gsum_split {gs : List Gr} (h : gs.Pairwise (fun a b => ¬ (a.nm = b.nm ∧ a.st = b.st))) (s : ByteArray) (n : Int) : gsum (gs.filter fun g => !g.at_ s n) + (valsAt gs s n).length = gsum gs := by
  induction gs with
  | nil => rfl
  | cons a r ih =>
    rw [List.pairwise_cons] at h
    by_cases e : a.at_ s n = true
    · have e2 : r.filter (fun g => !g.at_ s n) = r := List.filter_eq_self.2 fun g hg => by
        cases hh : g.at_ s n
        · rfl
        · obtain ⟨h1, h2⟩ := of_decide_eq_true e
          obtain ⟨h3, h4⟩ := of_decide_eq_true hh
          exact absurd ⟨h1.trans h3.symm, h2.trans h4.symm⟩ (h.1 g hg)
      rw [List.filter_cons, if_neg (by rw [e]; simp), e2]
      unfold valsAt
      rw [List.find?_cons, e]
      simp only [gsum, List.map_cons, List.sum_cons]
      omega
    · have e' : a.at_ s n = false := by simpa using e
      have e3 : valsAt (a :: r) s n = valsAt r s n := by unfold valsAt; rw [List.find?_cons, e']
      rw [List.filter_cons, if_pos (by rw [e']; rfl), e3]
      have := ih h.2
      simp only [gsum, List.map_cons, List.sum_cons] at this ⊢
      omega
theorem gsum_put {D : DataW Unit} {gs : List Gr} (h : RepV D gs) (s : ByteArray) (n v : Int) : gsum (putG gs s n v) = gsum gs + 1 := by
  have := gsum_split h.apart s n
  unfold putG
  simp only [gsum, List.map_cons, List.sum_cons, List.length_append, List.length_singleton] at this ⊢
  omega
end Go.Proofs.YtcglbbabfkbcbadGreat
/- The rows of YtcglbbabfkbcbadGreatRowsK under the other name, so that the texts of the book find them. -/
namespace Go.Proofs.YtcglbbabfkbcbadGreat
end Go.Proofs.YtcglbbabfkbcbadGreat
