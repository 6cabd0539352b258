/-
  The records of a table: plain laws; how the map of them reads.
-/
import Derived.Test.YtcglbbabfkbcbadGreatM3
import Derived.DeepKeys2
import Derived.Lib.SlMapFilter
import Derived.Maps.Ext
namespace Go.Proofs.YtcglbbabfkbcbadGreat
open Go.RowKit Go.Maps

/-- A record. -/
structure Rc where
  nm : ByteArray
  st : Int
  ag : Ag
deriving DecidableEq
def Rc.cells (r : Rc) : List Value := .string r.nm :: .int .i64 r.st :: r.ag.cells
abbrev Rc.val (r : Rc) : Value := .agg #[.string r.nm, .int .i64 r.st, .int .i64 r.ag.c, .int .i64 r.ag.hi, .int .u64 r.ag.lo, .int .i64 r.ag.mn, .int .i64 r.ag.mx]
structure Rc.Ok (r : Rc) : Prop where
  nm : r.nm.size ≤ maxLen
  st : (Lit.int .i64 r.st).wf = true
  ag : r.ag.Fit
/-- What a map's element reads as. -/
def agD (a : Ag) : DataW Unit := .agg [.lit (.int .i64 a.c), .lit (.int .i64 a.hi), .lit (.int .u64 a.lo), .lit (.int .i64 a.mn), .lit (.int .i64 a.mx)]
def agElem (v : Value) : Option (DataW Unit × List MemPlace) := match v with
  | .agg xs => match xs.toList with
    | [.int .i64 c, .int .i64 hi, .int .u64 lo, .int .i64 mn, .int .i64 mx] => some (agD ⟨c, hi, lo, mn, mx⟩, [])
    | _ => none
  | _ => none
theorem agElem_mk (a : Ag) : agElem a.val = some (agD a, []) := rfl
theorem agElem_inv {v : Value} {z : DataW Unit × List MemPlace} (h : agElem v = some z) : ∃ a : Ag, v = a.val ∧ z = (agD a, []) := by
  unfold agElem at h
  split at h
  · next xs =>
    split at h
    · next c hi lo mn mx e =>
      cases h
      refine ⟨⟨c, hi, lo, mn, mx⟩, ?_, rfl⟩
      show Value.agg xs = Value.agg _
      congr 1
      exact (show xs = xs.toList.toArray from by simp).trans (by rw [e])
    · cases h
  · cases h
theorem agD_inj {a b : Ag} (h : agD a = agD b) : a = b := by
  obtain ⟨c, hi, lo, mn, mx⟩ := a
  obtain ⟨c', hi', lo', mn', mx'⟩ := b
  simp [agD] at h
  simp [h]
theorem key_inv {v : Value} {l : Lit} (h : keyOf Tryz.prog 83 v = some l) : ∃ s n, v = placeV s n ∧ l = klit s n ∧ s.size ≤ maxLen ∧ (Lit.int .i64 n).wf = true := by
  obtain ⟨xs, L, rfl, hl, rfl⟩ := keyOf_top (by rw [Tryz.underlying83]) h
  obtain ⟨m, hm⟩ := types_pos
  have hc : Tryz.prog.cellsOf 83 = 2 := by kernel_rfl
  have c3 : Tryz.prog.cellsOf 3 = 1 := by kernel_rfl
  have c9 : Tryz.prog.cellsOf 9 = 1 := by kernel_rfl
  rw [hm] at hl
  unfold Program.keyLits at hl
  simp only [Tryz.underlying83] at hl
  split at hl
  · rename_i hlen
    obtain ⟨a, b, e⟩ : ∃ a b, xs.toList = [a, b] := by 
      have := hlen.1
      rw [hc] at this
      cases hx : xs.toList with
      | nil => rw [hx] at this; simp at this
      | cons a r =>
        rw [hx] at this
        cases r with
        | nil => simp at this
        | cons b r =>
          cases r with
          | nil => exact ⟨a, b, rfl⟩
          | cons c r => simp at this
    rw [e] at hl
    have ex : xs = #[a, b] := (show xs = xs.toList.toArray from by simp).trans (by rw [e])
    cases a <;> simp [Program.keyLits, Tryz.underlying9, Tryz.underlying3, c3, c9] at hl
    rename_i s
    by_cases hz : s.size ≤ maxLen
    · cases b <;> simp [hz] at hl
      rename_i k n
      by_cases hk : k = IntKind.i64 ∧ (Lit.int IntKind.i64 n).wf = true
      · obtain ⟨rfl, hn⟩ := hk
        simp [hn] at hl
        exact ⟨s, n, by rw [ex], by rw [← hl]; rfl, hz, hn⟩
      · simp [hk] at hl
    · simp [hz] at hl
  · cases hl
theorem klit_inj {s t : ByteArray} {a b : Int} (hs : s.size ≤ maxLen) (ha : (Lit.int .i64 a).wf = true) (ht : t.size ≤ maxLen) (hb : (Lit.int .i64 b).wf = true) (h : klit s a = klit t b) : s = t ∧ a = b := by
  have h1 := key_mk hs ha
  have h2 := key_mk ht hb
  rw [← h] at h2
  have := place_law.inj h1 h2
  simpa [placeV] using this

theorem bytes_inj {s t : ByteArray} (h : s.toList = t.toList) : s = t := by
  rw [ByteArray.toList_eq, ByteArray.toList_eq] at h
  exact ByteArray.ext (Array.toList_inj.1 h)
/-- Ahead in the order of records. -/
def Rc.lt (r s : Rc) : Prop := ahead r.nm.toList r.st s.nm.toList s.st
def Rc.same (r s : Rc) : Bool := decide (r.nm = s.nm ∧ r.st = s.st)
theorem Rc.same_iff {r s : Rc} : r.same s = true ↔ r.nm = s.nm ∧ r.st = s.st := by unfold Rc.same; rw [decide_eq_true_iff]
theorem Rc.same_symm (r s : Rc) : r.same s = s.same r := by
  unfold Rc.same
  rw [Bool.eq_iff_iff]; simp only [decide_eq_true_eq]
  constructor <;> rintro ⟨h1, h2⟩ <;> exact ⟨h1.symm, h2.symm⟩
theorem Rc.lt_not_same {r s : Rc} (h : r.lt s) : r.same s = false := by
  cases hs : r.same s
  · rfl
  · obtain ⟨h1, h2⟩ := Rc.same_iff.1 hs
    unfold Rc.lt at h
    rw [h1, h2] at h
    exact absurd h (ahead_irrefl _ _)
theorem Rc.lt_trans {r s t : Rc} (h : r.lt s) (k : s.lt t) : r.lt t := ahead_trans h k
theorem Rc.total {r s : Rc} (h : ¬ r.lt s) (k : r.same s = false) : s.lt r := by
  by_cases g : s.lt r
  · exact g
  · obtain ⟨h1, h2⟩ := ahead_total h g
    rw [show r.same s = true from Rc.same_iff.2 ⟨bytes_inj h1, h2⟩] at k
    cases k
theorem Rc.lt_of_same {r s t : Rc} (h : r.same s = true) (k : s.lt t) : r.lt t := by
  obtain ⟨h1, h2⟩ := Rc.same_iff.1 h
  unfold Rc.lt at *
  rw [h1, h2]; exact k
theorem Rc.lt_of_same' {r s t : Rc} (h : r.same s = true) (k : t.lt s) : t.lt r := by
  obtain ⟨h1, h2⟩ := Rc.same_iff.1 h
  unfold Rc.lt at *
  rw [h1, h2]; exact k
open Classical in
/-- A record put where it stands, in place of the one that stood there. -/
noncomputable def putR (x : Rc) : List Rc → List Rc
  | [] => [x]
  | y :: r => if x.same y = true then x :: r else if x.lt y then x :: y :: r else y :: putR x r
theorem mem_putR {x z : Rc} : ∀ {l : List Rc}, z ∈ putR x l → z = x ∨ z ∈ l
  | [], h => by simp [putR] at h; exact .inl h
  | y :: r, h => by
    unfold putR at h
    split at h
    · rcases List.mem_cons.1 h with h | h
      · exact .inl h
      · exact .inr (by simp [h])
    · split at h
      · rcases List.mem_cons.1 h with h | h
        · exact .inl h
        · exact .inr h
      · rcases List.mem_cons.1 h with h | h
        · exact .inr (by simp [h])
        · rcases mem_putR h with h | h
          · exact .inl h
          · exact .inr (by simp [h])
theorem ord_putR {x : Rc} : ∀ {l : List Rc}, l.Pairwise Rc.lt → (putR x l).Pairwise Rc.lt
  | [], _ => by simp [putR]
  | y :: r, h => by
    rw [List.pairwise_cons] at h
    unfold putR
    split
    · next e =>
      rw [List.pairwise_cons]
      exact ⟨fun z hz => Rc.lt_of_same e (h.1 z hz), h.2⟩
    · next e =>
      split
      · next k =>
        rw [List.pairwise_cons]
        refine ⟨fun z hz => ?_, List.pairwise_cons.2 h⟩
        rcases List.mem_cons.1 hz with rfl | hz
        · exact k
        · exact Rc.lt_trans k (h.1 z hz)
      · next k =>
        rw [List.pairwise_cons]
        refine ⟨fun z hz => ?_, ord_putR h.2⟩
        rcases mem_putR hz with rfl | hz
        · exact Rc.total k (by simpa using e)
        · exact h.1 z hz
theorem putR_perm {x : Rc} : ∀ {l : List Rc}, l.Pairwise Rc.lt → (putR x l).Perm (x :: l.filter fun y => !x.same y)
  | [], _ => by simp [putR]
  | y :: r, h => by
    rw [List.pairwise_cons] at h
    unfold putR
    split
    · next e =>
      have e2 : (y :: r).filter (fun y => !x.same y) = r := by
        rw [List.filter_cons, if_neg (by simp [e])]
        exact List.filter_eq_self.2 (fun z hz => by rw [Rc.lt_not_same (Rc.lt_of_same e (h.1 z hz))]; rfl)
      rw [e2]
    · next e =>
      split
      · next k =>
        rw [List.filter_eq_self.2 (fun z hz => by
          rcases List.mem_cons.1 hz with rfl | hz
          · simpa using e
          · rw [Rc.lt_not_same (Rc.lt_trans k (h.1 z hz))]; rfl)]
      · next k =>
        rw [List.filter_cons, if_pos (by simpa using e)]
        exact ((putR_perm h.2).cons y).trans (List.Perm.swap x y _)
/-- Lists in order with the same members are one. -/
theorem ord_ext : ∀ {l k : List Rc}, l.Pairwise Rc.lt → k.Pairwise Rc.lt → l.Perm k → l = k
  | [], k, _, _, h => by have := h.length_eq; simp at this; exact (List.eq_nil_of_length_eq_zero this.symm).symm
  | x :: r, [], _, _, h => by have := h.length_eq; simp at this
  | x :: r, y :: s, hl, hk, h => by
    rw [List.pairwise_cons] at hl hk
    have e : x = y := by
      have h1 := h.mem_iff.1 (show x ∈ x :: r by simp)
      have h2 := h.mem_iff.2 (show y ∈ y :: s by simp)
      rcases List.mem_cons.1 h1 with h1 | h1
      · exact h1
      · rcases List.mem_cons.1 h2 with h2 | h2
        · exact h2.symm
        · exact absurd (Rc.lt_trans (hl.1 y h2) (hk.1 x h1)) (ahead_irrefl _ _)
    subst e
    rw [ord_ext hl.2 hk.2 (List.perm_cons x |>.1 h)]
/-- What stands at a place. -/
def findR (l : List Rc) (s : ByteArray) (n : Int) : Option Rc := l.find? fun r => decide (r.nm = s ∧ r.st = n)
theorem findR_some {l : List Rc} {s : ByteArray} {n : Int} {r : Rc} (h : findR l s n = some r) : r ∈ l ∧ r.nm = s ∧ r.st = n := by
  have h1 := List.mem_of_find?_eq_some h
  have h2 := List.find?_some h
  rw [decide_eq_true_iff] at h2
  exact ⟨h1, h2⟩
theorem findR_none {l : List Rc} {s : ByteArray} {n : Int} (h : findR l s n = none) : ∀ r ∈ l, ¬ (r.nm = s ∧ r.st = n) := by
  intro r hr
  have := List.find?_eq_none.1 h r hr
  simpa using this

def recP (r : Rc) : Lit × DataW Unit := (klit r.nm r.st, agD r.ag)
/-- A map that has just these records. -/
structure Rep (D : DataW Unit) (l : List Rc) : Prop where
  perm : ∃ ps, D = .map ps ∧ ps.Perm (l.map recP)
  ok : ∀ r ∈ l, r.Ok
  ord : l.Pairwise Rc.lt
theorem klit_iff {r : Rc} (hr : r.Ok) {s : ByteArray} {n : Int} (hs : s.size ≤ maxLen) (hn : (Lit.int .i64 n).wf = true) : klit r.nm r.st = klit s n ↔ r.nm = s ∧ r.st = n :=
  ⟨fun h => klit_inj hr.nm hr.st hs hn h, fun ⟨h1, h2⟩ => by rw [h1, h2]⟩
theorem same_klit {a b : Int} {s t : ByteArray} : (klit s a).sameKey (klit t b) = true ↔ klit s a = klit t b :=
  WideAt.sameKey_iff (by simp [klit, WideAt.IsKeyLit])
theorem Rep.size {D : DataW Unit} {l : List Rc} (h : Rep D l) : Maps.size D = l.length := by
  obtain ⟨ps, rfl, hp⟩ := h.perm
  rw [Maps.size_eq, hp.length_eq, List.length_map]
theorem Rep.apart {D : DataW Unit} {l : List Rc} (h : Rep D l) : ∃ ps, D = .map ps ∧ ps.Perm (l.map recP) ∧ ps.Pairwise (fun p q => p.1 ≠ q.1) := by
  obtain ⟨ps, rfl, hp⟩ := h.perm
  refine ⟨ps, rfl, hp, ?_⟩
  refine (hp.pairwise_iff (fun {_ _} hne => Ne.symm hne)).2 ?_
  rw [List.pairwise_map]
  refine List.Pairwise.imp_of_mem ?_ h.ord
  intro a b ha hb hlt e
  obtain ⟨h1, h2⟩ := (klit_iff (h.ok a ha) (h.ok b hb).nm (h.ok b hb).st).1 e
  have := Rc.lt_not_same hlt
  rw [Rc.same_iff.2 ⟨h1, h2⟩] at this
  cases this
theorem Rep.has {D : DataW Unit} {l : List Rc} (h : Rep D l) {s : ByteArray} {n : Int} (hs : s.size ≤ maxLen) (hn : (Lit.int .i64 n).wf = true) : Maps.has D (klit s n) = (findR l s n).isSome := by
  obtain ⟨ps, rfl, hp⟩ := h.perm
  rw [Maps.has_eq, Bool.eq_iff_iff]
  unfold findR
  rw [List.any_eq_true, List.find?_isSome]
  constructor
  · rintro ⟨p, hpm, hk⟩
    obtain ⟨r, hr, rfl⟩ := List.mem_map.1 (hp.mem_iff.1 hpm)
    exact ⟨r, hr, decide_eq_true ((klit_iff (h.ok r hr) hs hn).1 (WideAt.sameKey_eq hk))⟩
  · rintro ⟨r, hr, hk⟩
    refine ⟨recP r, hp.mem_iff.2 (List.mem_map.2 ⟨r, hr, rfl⟩), ?_⟩
    show (klit r.nm r.st).sameKey _ = true
    exact same_klit.2 ((klit_iff (h.ok r hr) hs hn).2 (of_decide_eq_true hk))
theorem Rep.at_ {D : DataW Unit} {l : List Rc} (h : Rep D l) {s : ByteArray} {n : Int} (hs : s.size ≤ maxLen) (hn : (Lit.int .i64 n).wf = true) (z : DataW Unit) : D.atKey (klit s n) z = match findR l s n with | some r => agD r.ag | none => z := by
  obtain ⟨ps, rfl, hp, hap⟩ := h.apart
  cases hf : findR l s n with
  | none =>
    refine WideAt.atKey_none z (fun p hpm e => ?_)
    obtain ⟨r, hr, rfl⟩ := List.mem_map.1 (hp.mem_iff.1 hpm)
    exact findR_none hf r hr ((klit_iff (h.ok r hr) hs hn).1 e)
  | some r =>
    obtain ⟨hr, rfl, rfl⟩ := findR_some hf
    exact WideAt.atKey_mem z (place_law.key (key_mk hs hn)) hap (hp.mem_iff.2 (List.mem_map.2 ⟨r, hr, rfl⟩))
theorem Rep.put {D : DataW Unit} {l : List Rc} (h : Rep D l) {x : Rc} (hx : x.Ok) : Rep (D.put (klit x.nm x.st) (agD x.ag)) (putR x l) := by
  obtain ⟨ps, rfl, hp⟩ := h.perm
  refine ⟨?_, fun r hr => ?_, ord_putR h.ord⟩
  · refine ⟨_, by unfold DataW.put; rfl, ?_⟩
    refine (WideShapes.insert_perm _ _).trans ?_
    have h2 := (putR_perm (x := x) h.ord).map recP
    refine List.Perm.trans ?_ h2.symm
    rw [List.map_cons]
    refine List.Perm.cons _ ?_
    refine (hp.filter _).trans ?_
    rw [List.filter_map]
    refine List.Perm.of_eq ?_
    congr 1
    apply List.filter_congr
    intro r hr
    show (!(klit r.nm r.st).sameKey (klit x.nm x.st)) = !x.same r
    congr 1
    rw [Bool.eq_iff_iff, Rc.same_symm, Rc.same_iff]
    exact same_klit.trans (klit_iff (h.ok r hr) hx.nm hx.st)
  · rcases mem_putR hr with rfl | hr
    · exact hx
    · exact h.ok r hr
theorem Rep.drop {D : DataW Unit} {l : List Rc} (h : Rep D l) {pd : Lit → DataW Unit → Bool} {p : Rc → Bool} (hpd : ∀ r ∈ l, pd (klit r.nm r.st) (agD r.ag) = p r) : Rep (Lib.deleteFuncD pd D) (l.filter fun r => !p r) := by
  obtain ⟨ps, rfl, hp⟩ := h.perm
  refine ⟨⟨_, rfl, ?_⟩, fun r hr => h.ok r (List.mem_filter.1 hr).1, h.ord.filter _⟩
  refine (hp.filter _).trans ?_
  rw [List.filter_map]
  refine List.Perm.of_eq ?_
  congr 1
  apply List.filter_congr
  intro r hr
  show (!pd (klit r.nm r.st) (agD r.ag)) = !p r
  rw [hpd r hr]
theorem Rep.nil : Rep (.map []) [] := ⟨⟨[], rfl, List.Perm.refl _⟩, by simp, List.Pairwise.nil⟩
/-- What came in a step of a range is one of them. -/
theorem Rep.next {D : DataW Unit} {l : List Rc} (h : Rep D l) {v : Value} {kl : Lit} {c : Value} {y : DataW Unit × List MemPlace} (hk : keyOf Tryz.prog 83 v = some kl) (hc : agElem c = some y) (hat : ∀ z, D.atKey kl z = y.1) :
    ∃ r ∈ l, v = placeV r.nm r.st ∧ kl = klit r.nm r.st ∧ c = r.ag.val := by
  obtain ⟨s, n, rfl, rfl, hs, hn⟩ := key_inv hk
  obtain ⟨a, rfl, rfl⟩ := agElem_inv hc
  have e := h.at_ hs hn
  cases hf : findR l s n with
  | none =>
    rw [hf] at e
    have h1 := (e .nil).symm.trans (hat .nil)
    cases h1
  | some r =>
    rw [hf] at e
    obtain ⟨hr, rfl, rfl⟩ := findR_some hf
    have h1 := agD_inj ((e .nil).symm.trans (hat .nil))
    exact ⟨r, hr, rfl, rfl, by rw [h1]⟩
end Go.Proofs.YtcglbbabfkbcbadGreat
