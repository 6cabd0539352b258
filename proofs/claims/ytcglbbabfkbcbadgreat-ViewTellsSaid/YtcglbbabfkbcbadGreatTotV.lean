/-
  Aggregates added up, in whatever order; what a table's records are, place by place.
-/
import Derived.Test.YtcglbbabfkbcbadGreatM6
namespace Go.Proofs.YtcglbbabfkbcbadGreat
open Go.RowKit Go.Maps

/-- Of some values, and as it may be. -/
structure Ag.V (a : Ag) : Prop where
  ok : a.Ok
  v : validG a = true
theorem Ag.V.cnt {a : Ag} (h : a.V) : 1 ≤ a.c ∧ a.c ≤ 4611686018427387904 ∧ a.mn ≤ a.mx := validG_cnt h.v
theorem Ag.V.fit {a : Ag} (h : a.V) : a.Fit := ⟨h.ok, by have := h.cnt; omega⟩
def sumV (a : Ag) : Int := (a.hi % 18446744073709551616) * 18446744073709551616 + a.lo
theorem ag_ext {a b : Ag} (ha : a.Ok) (hb : b.Ok) (h1 : a.c = b.c) (h2 : sumV a = sumV b) (h3 : a.mn = b.mn) (h4 : a.mx = b.mx) : a = b := by
  obtain ⟨c, hi, lo, mn, mx⟩ := a
  obtain ⟨c', hi', lo', mn', mx'⟩ := b
  have p1 := ha.hi
  have p2 := hb.hi
  have p3 := ha.lo
  have p4 := hb.lo
  simp only [sumV] at *
  have e1 : lo = lo' := by omega
  have e2 : hi % 18446744073709551616 = hi' % 18446744073709551616 := by omega
  have e3 : hi = hi' := by omega
  rw [h1, e1, e3, h3, h4]
theorem wrap_mod (z : Int) : IntKind.i64.wrap z % 18446744073709551616 = z % 18446744073709551616 := by
  rw [IntKind.wrap_i64]; omega
theorem sum_arith (x y la lb : Int) :
    ((x % 18446744073709551616 + y % 18446744073709551616 + (la + lb) / 18446744073709551616) % 18446744073709551616 % 18446744073709551616) * 18446744073709551616 + (la + lb) % 18446744073709551616 =
      (((x % 18446744073709551616) * 18446744073709551616 + la) + ((y % 18446744073709551616) * 18446744073709551616 + lb)) % 340282366920938463463374607431768211456 := by
  have hx : 0 ≤ x % 18446744073709551616 ∧ x % 18446744073709551616 ≤ 18446744073709551615 := by omega
  have hy : 0 ≤ y % 18446744073709551616 ∧ y % 18446744073709551616 ≤ 18446744073709551615 := by omega
  generalize x % 18446744073709551616 = u at *
  generalize y % 18446744073709551616 = v at *
  omega
theorem sumV_both {a b : Ag} (ha : a.V) (_ : b.V) : sumV (bothG a b) = (sumV a + sumV b) % 340282366920938463463374607431768211456 := by
  unfold sumV bothG
  rw [if_neg (by have := ha.cnt; omega)]
  simp only
  rw [wrap_mod, wrapU, wrapU]
  exact sum_arith _ _ _ _
theorem both_c {a b : Ag} (ha : a.V) (hb : b.V) : (bothG a b).c = min (a.c + b.c) 4611686018427387904 ∧ (bothG a b).mn = min a.mn b.mn ∧ (bothG a b).mx = max a.mx b.mx := by
  have h1 := ha.cnt
  have h2 := hb.cnt
  unfold bothG
  rw [if_neg (by omega)]
  refine ⟨?_, rfl, rfl⟩
  simp only
  split <;> omega
theorem Ag.V.both {a b : Ag} (ha : a.V) (hb : b.V) : (bothG a b).V := by
  have h := both_c ha hb
  have h1 := ha.cnt
  have h2 := hb.cnt
  refine ⟨(ha.fit.both hb.fit).ok, decide_eq_true ?_⟩
  rw [h.1, h.2.1, h.2.2]
  omega
theorem both_comm {a b : Ag} (ha : a.V) (hb : b.V) : bothG a b = bothG b a := by
  have h := both_c ha hb
  have k := both_c hb ha
  refine ag_ext (ha.both hb).ok (hb.both ha).ok ?_ ?_ ?_ ?_
  · rw [h.1, k.1, Int.add_comm]
  · rw [sumV_both ha hb, sumV_both hb ha, Int.add_comm]
  · rw [h.2.1, k.2.1, Int.min_comm]
  · rw [h.2.2, k.2.2, Int.max_comm]
theorem mod_assoc (x y z m : Int) : ((x + y) % m + z) % m = (x + (y + z) % m) % m := by simp [Int.add_assoc]
theorem cap_assoc (x y z : Int) (hx : 1 ≤ x) (hz : 1 ≤ z) : min (min (x + y) 4611686018427387904 + z) 4611686018427387904 = min (x + min (y + z) 4611686018427387904) 4611686018427387904 := by omega
theorem both_assoc {a b c : Ag} (ha : a.V) (hb : b.V) (hc : c.V) : bothG (bothG a b) c = bothG a (bothG b c) := by
  have h1 := both_c ha hb
  have h2 := both_c (ha.both hb) hc
  have h3 := both_c hb hc
  have h4 := both_c ha (hb.both hc)
  have n1 := ha.cnt
  have n2 := hb.cnt
  have n3 := hc.cnt
  refine ag_ext ((ha.both hb).both hc).ok (ha.both (hb.both hc)).ok ?_ ?_ ?_ ?_
  · rw [h2.1, h1.1, h4.1, h3.1]; exact cap_assoc _ _ _ (by omega) (by omega)
  · rw [sumV_both (ha.both hb) hc, sumV_both ha hb, sumV_both ha (hb.both hc), sumV_both hb hc]
    exact mod_assoc _ _ _ _
  · rw [h2.2.1, h1.2.1, h4.2.1, h3.2.1]; exact Int.min_assoc _ _ _
  · rw [h2.2.2, h1.2.2, h4.2.2, h3.2.2]; exact Int.max_assoc _ _ _
/-- Nought, or of some values. -/
def Ag.Good (a : Ag) : Prop := a = Ag.zero ∨ a.V
def plus (a b : Ag) : Ag := if b.c = 0 then a else bothG a b
theorem zero_c : Ag.zero.c = 0 := rfl
theorem plus_zero (a : Ag) : plus a Ag.zero = a := if_pos rfl
theorem both_zero (b : Ag) : bothG Ag.zero b = b := if_pos rfl
theorem zero_plus {b : Ag} (h : b.Good) : plus Ag.zero b = b := by
  rcases h with rfl | h
  · rfl
  · unfold plus; rw [if_neg (by have := h.cnt; omega)]; exact both_zero b
theorem plus_V {a b : Ag} (hb : b.V) : plus a b = bothG a b := if_neg (by have := hb.cnt; omega)
theorem Ag.Good.zero : Ag.zero.Good := .inl rfl
theorem Ag.V.good {a : Ag} (h : a.V) : a.Good := .inr h
theorem Ag.Good.plus {a b : Ag} (ha : a.Good) (hb : b.Good) : (plus a b).Good := by
  rcases hb with rfl | hb
  · rw [plus_zero]; exact ha
  · rcases ha with rfl | ha
    · rw [zero_plus hb.good]; exact hb.good
    · rw [plus_V hb]; exact (ha.both hb).good
theorem plus_comm {a b : Ag} (ha : a.Good) (hb : b.Good) : plus a b = plus b a := by
  rcases ha with rfl | ha
  · rw [zero_plus hb, plus_zero]
  · rcases hb with rfl | hb
    · rw [zero_plus ha.good, plus_zero]
    · rw [plus_V hb, plus_V ha, both_comm ha hb]
theorem plus_assoc {a b c : Ag} (ha : a.Good) (hb : b.Good) (hc : c.Good) : plus (plus a b) c = plus a (plus b c) := by
  rcases hc with rfl | hc
  · rw [plus_zero, plus_zero]
  · rcases hb with rfl | hb
    · rw [plus_zero, zero_plus hc.good]
    · rcases ha with rfl | ha
      · rw [zero_plus hb.good, zero_plus (hb.good.plus hc.good)]
      · rw [plus_V hb, plus_V hc, plus_V hc, plus_V (hb.both hc), both_assoc ha hb hc]
/-- All of them. -/
def tot (l : List Ag) : Ag := l.foldr plus Ag.zero
theorem tot_cons (a : Ag) (l : List Ag) : tot (a :: l) = plus a (tot l) := rfl
theorem good_tot : ∀ {l : List Ag}, (∀ a ∈ l, a.Good) → (tot l).Good
  | [], _ => .zero
  | a :: l, h => (h a (by simp)).plus (good_tot fun x hx => h x (by simp [hx]))
theorem tot_app : ∀ {l k : List Ag}, (∀ a ∈ l, a.Good) → (∀ a ∈ k, a.Good) → tot (l ++ k) = plus (tot l) (tot k)
  | [], k, _, hk => (zero_plus (good_tot hk)).symm
  | a :: l, k, hl, hk => by
    rw [List.cons_append, tot_cons, tot_cons, tot_app (fun x hx => hl x (by simp [hx])) hk, plus_assoc (hl a (by simp)) (good_tot fun x hx => hl x (by simp [hx])) (good_tot hk)]
theorem tot_perm {l k : List Ag} (h : l.Perm k) : (∀ a ∈ l, a.Good) → tot l = tot k := by
  induction h with
  | nil => intro _; rfl
  | cons a _ ih => intro hg; rw [tot_cons, tot_cons, ih fun x hx => hg x (by simp [hx])]
  | swap a b l =>
    intro hg
    have ha := hg a (by simp)
    have hb := hg b (by simp)
    have hl := good_tot (l := l) fun x hx => hg x (by simp [hx])
    rw [tot_cons, tot_cons, tot_cons, tot_cons, ← plus_assoc hb ha hl, ← plus_assoc ha hb hl, plus_comm ha hb]
  | trans h1 _ ih1 ih2 => intro hg; rw [ih1 hg, ih2 fun x hx => hg x (h1.mem_iff.2 hx)]
/-- Merge of two, of which one may be nought. -/
theorem merge_two {p a : Ag} (hp : p.Good) (ha : a.V) : mergeL [p, a] = plus p a := by
  show mergeStep (mergeStep Ag.zero p) a = _
  rw [plus_V ha]
  unfold mergeStep
  rw [if_pos ha.v]
  rcases hp with rfl | hp
  · rw [if_neg (by decide)]
  · rw [if_pos hp.v, both_zero]
/-- A list of values, added up. -/
theorem foldl_plus : ∀ {l : List Ag} {z : Ag}, z.Good → (∀ a ∈ l, a.V) → l.foldl bothG z = plus z (tot l)
  | [], z, _, _ => (plus_zero z).symm
  | a :: l, z, hz, h => by
    have ha := h a (by simp)
    have e : bothG z a = plus z a := (plus_V ha).symm
    rw [List.foldl_cons, e, foldl_plus (hz.plus ha.good) (fun x hx => h x (by simp [hx])), tot_cons, plus_assoc hz ha.good (good_tot fun x hx => (h x (by simp [hx])).good)]

/-- A table's records: in order, each as it may be. -/
structure Tab (l : List Rc) : Prop where
  ord : l.Pairwise Rc.lt
  v : ∀ r ∈ l, r.ag.V
theorem Tab.nil : Tab [] := ⟨List.Pairwise.nil, by simp⟩
theorem Tab.good {l : List Rc} (h : Tab l) (P : Rc → Bool) : ∀ a ∈ (l.filter P).map Rc.ag, a.Good := by
  intro a ha
  obtain ⟨r, hr, rfl⟩ := List.mem_map.1 ha
  exact (h.v r (List.mem_filter.1 hr).1).good
theorem find_mem {L : List Rc} (h : L.Pairwise Rc.lt) {r : Rc} (hr : r ∈ L) : findR L r.nm r.st = some r := by
  cases hf : findR L r.nm r.st with
  | none => exact absurd ⟨rfl, rfl⟩ (findR_none hf r hr)
  | some x =>
    obtain ⟨hx, h1, h2⟩ := findR_some hf
    obtain ⟨i, hi, rfl⟩ := List.getElem_of_mem hx
    obtain ⟨j, hj, rfl⟩ := List.getElem_of_mem hr
    rw [List.pairwise_iff_getElem] at h
    rcases Nat.lt_trichotomy i j with e | e | e
    · have := Rc.lt_not_same (h i j hi hj e); rw [Rc.same_iff.2 ⟨h1, h2⟩] at this; cases this
    · subst e; rfl
    · have := Rc.lt_not_same (h j i hj hi e); rw [Rc.same_iff.2 ⟨h1.symm, h2.symm⟩] at this; cases this
theorem putR_self {r : Rc} : ∀ {l : List Rc}, l.Pairwise Rc.lt → r ∈ l → putR r l = l
  | [], _, h => by cases h
  | y :: l, h, hr => by
    rw [List.pairwise_cons] at h
    unfold putR
    rcases List.mem_cons.1 hr with rfl | hr
    · rw [if_pos (Rc.same_iff.2 ⟨rfl, rfl⟩)]
    · have hy := h.1 r hr
      rw [if_neg (by rw [Rc.same_symm, Rc.lt_not_same hy]; simp), if_neg (fun e => ahead_irrefl _ _ (Rc.lt_trans hy e)), putR_self h.2 hr]
/-- What a choice of places takes of a table. -/
def OfPlace (P : Rc → Bool) : Prop := ∀ r s : Rc, r.nm = s.nm → r.st = s.st → P r = P s
theorem tot_split {l : List Rc} (h : Tab l) (x : Rc) (P : Rc → Bool) (hP : OfPlace P) :
    tot ((l.filter P).map Rc.ag) = plus (if P x = true then agAt l x.nm x.st else Ag.zero) (tot (((l.filter fun y => !x.same y).filter P).map Rc.ag)) := by
  cases hf : findR l x.nm x.st with
  | none =>
    have e : l.filter (fun y => !x.same y) = l := List.filter_eq_self.2 fun y hy => by
      cases hs : x.same y
      · rfl
      · obtain ⟨h1, h2⟩ := Rc.same_iff.1 hs
        exact absurd ⟨h1.symm, h2.symm⟩ (findR_none hf y hy)
    have e2 : agAt l x.nm x.st = Ag.zero := by unfold agAt; rw [hf]
    rw [e, e2, ite_self, zero_plus (good_tot (h.good P))]
  | some r =>
    obtain ⟨hr, h1, h2⟩ := findR_some hf
    have e2 : agAt l x.nm x.st = r.ag := by unfold agAt; rw [hf]
    have hp := putR_perm (x := r) h.ord
    rw [putR_self h.ord hr] at hp
    have e3 : (fun y => !r.same y) = fun y => !x.same y := by
      funext y
      congr 1
      rw [Bool.eq_iff_iff, Rc.same_iff, Rc.same_iff, h1, h2]
    rw [e3] at hp
    have hq := tot_perm ((hp.filter P).map Rc.ag) (h.good P)
    rw [hq, e2, hP x r h1.symm h2.symm]
    cases hPr : P r
    · rw [List.filter_cons, if_neg (by rw [hPr]; simp), if_neg (by simp), zero_plus]
      refine good_tot fun a ha => ?_
      obtain ⟨y, hy, rfl⟩ := List.mem_map.1 ha
      exact (h.v y (List.mem_filter.1 (List.mem_filter.1 hy).1).1).good
    · rw [List.filter_cons, if_pos hPr, if_pos rfl]; rfl
theorem agAt_good {l : List Rc} (h : Tab l) (s : ByteArray) (n : Int) : (agAt l s n).Good := by
  unfold agAt
  cases hf : findR l s n with
  | none => exact .zero
  | some r => exact (h.v r (findR_some hf).1).good
theorem Tab.put {l : List Rc} (h : Tab l) {x : Rc} (hx : x.ag.V) : Tab (putR x l) := ⟨ord_putR h.ord, fun r hr => by
  rcases mem_putR hr with rfl | hr
  · exact hx
  · exact h.v r hr⟩
theorem right_V {ev : Int} {r : Rc} (h : rightR ev r = true) (hr : r.ag.Ok) : r.ag.V := by
  unfold rightR at h
  simp only [Bool.and_eq_true] at h
  exact ⟨hr, h.2⟩
theorem addR_V {l : List Rc} (h : Tab l) {r : Rc} (hr : r.ag.V) : mergeL [agAt l r.nm r.st, r.ag] = plus (agAt l r.nm r.st) r.ag ∧ (plus (agAt l r.nm r.st) r.ag).V := by
  refine ⟨merge_two (agAt_good h _ _) hr, ?_⟩
  rcases agAt_good h r.nm r.st with e | e
  · rw [e, zero_plus hr.good]; exact hr
  · rw [plus_V hr]; exact e.both hr
theorem Tab.add {ev : Int} {l : List Rc} (h : Tab l) {r : Rc} (hr : r.ag.Ok) : Tab (addR ev l r) := by
  unfold addR
  split
  · next e =>
    have hv := addR_V h (right_V e hr)
    refine h.put ?_
    rw [hv.1]; exact hv.2
  · exact h
theorem tot_addR {ev : Int} {l : List Rc} (h : Tab l) {r : Rc} (hr : r.ag.Ok) (P : Rc → Bool) (hP : OfPlace P) :
    tot (((addR ev l r).filter P).map Rc.ag) = plus (tot ((l.filter P).map Rc.ag)) (if (rightR ev r && P r) = true then r.ag else Ag.zero) := by
  unfold addR
  cases hx : rightR ev r
  · rw [if_neg (by simp), if_neg (by simp), plus_zero]
  · have hv := right_V hx hr
    obtain ⟨e1, e2⟩ := addR_V h hv
    rw [if_pos rfl, Bool.true_and, e1]
    obtain ⟨x, hxd⟩ : ∃ x : Rc, x = ⟨r.nm, r.st, plus (agAt l r.nm r.st) r.ag⟩ := ⟨_, rfl⟩
    have x1 : x.nm = r.nm := by rw [hxd]
    have x2 : x.st = r.st := by rw [hxd]
    have x3 : x.ag = plus (agAt l r.nm r.st) r.ag := by rw [hxd]
    rw [← hxd]
    have hV : Tab (putR x l) := h.put (by rw [x3]; exact e2)
    rw [tot_perm (((putR_perm (x := x) h.ord).filter P).map Rc.ag) (hV.good P), tot_split h x P hP, ← hP x r x1 x2]
    have hg : (tot (((l.filter fun y => !x.same y).filter P).map Rc.ag)).Good := by
      refine good_tot fun a ha => ?_
      obtain ⟨y, hy, rfl⟩ := List.mem_map.1 ha
      exact (h.v y (List.mem_filter.1 (List.mem_filter.1 hy).1).1).good
    cases hPx : P x
    · rw [List.filter_cons, if_neg (by rw [hPx]; simp), if_neg (by simp), if_neg (by simp), plus_zero, zero_plus hg]
    · rw [List.filter_cons, if_pos hPx, if_pos rfl, if_pos rfl, List.map_cons, tot_cons, x1, x2, x3]
      rw [plus_assoc (agAt_good h _ _) hv.good hg, plus_assoc (agAt_good h _ _) hg hv.good, plus_comm hv.good hg]
theorem tab_addL {ev : Int} : ∀ {rs l : List Rc}, Tab l → (∀ r ∈ rs, r.ag.Ok) → Tab (addL ev l rs)
  | [], _, h, _ => h
  | r :: rs, l, h, hr => tab_addL (rs := rs) (l := addR ev l r) (h.add (hr r (by simp))) fun x hx => hr x (by simp [hx])
theorem tot_addL {ev : Int} (P : Rc → Bool) (hP : OfPlace P) : ∀ {rs l : List Rc}, Tab l → (∀ r ∈ rs, r.ag.Ok) →
    tot (((addL ev l rs).filter P).map Rc.ag) = plus (tot ((l.filter P).map Rc.ag)) (tot ((rs.filter fun r => rightR ev r && P r).map Rc.ag))
  | [], l, _, _ => (plus_zero _).symm
  | r :: rs, l, h, hr => by
    have hok := hr r (by simp)
    have hok' : ∀ x ∈ rs, x.ag.Ok := fun x hx => hr x (by simp [hx])
    show tot (((addL ev (addR ev l r) rs).filter P).map Rc.ag) = _
    rw [tot_addL P hP (h.add hok) hok', tot_addR h hok P hP]
    have hg : (tot ((rs.filter fun r => rightR ev r && P r).map Rc.ag)).Good := by
      refine good_tot fun a ha => ?_
      obtain ⟨y, hy, rfl⟩ := List.mem_map.1 ha
      obtain ⟨y1, y2⟩ := List.mem_filter.1 hy
      simp only [Bool.and_eq_true] at y2
      exact (right_V y2.1 (hok' y y1)).good
    cases hx : (rightR ev r && P r)
    · rw [List.filter_cons, hx, if_neg (by simp), if_neg (by simp), plus_zero]
    · rw [List.filter_cons, hx, if_pos rfl, if_pos rfl, List.map_cons, tot_cons, plus_assoc (good_tot (h.good P)) ?_ hg]
      simp only [Bool.and_eq_true] at hx
      exact (right_V hx.1 hok).good
theorem some_putR {x : Rc} : ∀ {l : List Rc} {z : Rc}, z ∈ l → ∃ y ∈ putR x l, y.nm = z.nm ∧ y.st = z.st
  | [], _, h => by cases h
  | y :: l, z, h => by
    unfold putR
    split
    · next e =>
      rcases List.mem_cons.1 h with rfl | h
      · obtain ⟨h1, h2⟩ := Rc.same_iff.1 e
        exact ⟨x, by simp, h1, h2⟩
      · exact ⟨z, by simp [h], rfl, rfl⟩
    · split
      · exact ⟨z, List.mem_cons_of_mem _ h, rfl, rfl⟩
      · rcases List.mem_cons.1 h with rfl | h
        · exact ⟨z, by simp, rfl, rfl⟩
        · obtain ⟨u, hu, h1⟩ := some_putR (x := x) h
          exact ⟨u, by simp [hu], h1⟩
theorem self_putR {x : Rc} : ∀ {l : List Rc}, x ∈ putR x l
  | [] => by simp [putR]
  | y :: l => by
    unfold putR
    split
    · simp
    · split
      · simp
      · exact List.mem_cons_of_mem _ self_putR
theorem some_addL {ev : Int} : ∀ {rs l : List Rc} {z : Rc}, (z ∈ l ∨ (z ∈ rs ∧ rightR ev z = true)) → ∃ y ∈ addL ev l rs, y.nm = z.nm ∧ y.st = z.st
  | [], l, z, h => by
    rcases h with h | ⟨h, _⟩
    · exact ⟨z, h, rfl, rfl⟩
    · cases h
  | r :: rs, l, z, h => by
    show ∃ y ∈ addL ev (addR ev l r) rs, _
    have up : ∀ u ∈ addR ev l r, u.nm = z.nm → u.st = z.st → ∃ y ∈ addL ev (addR ev l r) rs, y.nm = z.nm ∧ y.st = z.st := fun u hu h1 h2 => by
      obtain ⟨y, hy, k1, k2⟩ := some_addL (ev := ev) (rs := rs) (l := addR ev l r) (z := u) (.inl hu)
      exact ⟨y, hy, k1.trans h1, k2.trans h2⟩
    rcases h with h | ⟨h, hz⟩
    · by_cases hx : rightR ev r = true
      · obtain ⟨u, hu, h1, h2⟩ := some_putR (x := ⟨r.nm, r.st, mergeL [agAt l r.nm r.st, r.ag]⟩) h
        exact up u (by unfold addR; rw [if_pos hx]; exact hu) h1 h2
      · exact up z (by unfold addR; rw [if_neg hx]; exact h) rfl rfl
    · rcases List.mem_cons.1 h with rfl | h
      · exact up ⟨z.nm, z.st, mergeL [agAt l z.nm z.st, z.ag]⟩ (by unfold addR; rw [if_pos hz]; exact self_putR) rfl rfl
      · exact some_addL (.inr ⟨h, hz⟩)
/-- Of a place. -/
def atP (s : ByteArray) (n : Int) (r : Rc) : Bool := decide (r.nm = s ∧ r.st = n)
theorem atP_of (s : ByteArray) (n : Int) : OfPlace (atP s n) := fun r t h1 h2 => by unfold atP; rw [h1, h2]
/-- What stands at a place of a table: the sum of what its place has. -/
theorem tot_at {l : List Rc} (h : Tab l) {r : Rc} (hr : r ∈ l) : tot ((l.filter (atP r.nm r.st)).map Rc.ag) = r.ag := by
  rw [tot_split h r _ (atP_of _ _), if_pos (by unfold atP; simp)]
  have e : ((l.filter fun y => !r.same y).filter (atP r.nm r.st)) = [] := by
    rw [List.filter_eq_nil_iff]
    intro y hy
    have := (List.mem_filter.1 hy).2
    unfold atP
    rw [decide_eq_true_iff]
    rintro ⟨h1, h2⟩
    rw [Rc.same_iff.2 ⟨h1.symm, h2.symm⟩] at this
    cases this
  rw [e]
  unfold agAt
  rw [find_mem h.ord hr]
  exact plus_zero _
/-- Tables that have the same places, with the same sums, are one. -/
theorem tab_ext {l k : List Rc} (hl : Tab l) (hk : Tab k) (h1 : ∀ r ∈ l, ∃ s ∈ k, s.nm = r.nm ∧ s.st = r.st) (h2 : ∀ r ∈ k, ∃ s ∈ l, s.nm = r.nm ∧ s.st = r.st)
    (h3 : ∀ s n, tot ((l.filter (atP s n)).map Rc.ag) = tot ((k.filter (atP s n)).map Rc.ag)) : l = k := by
  have sub : ∀ {l k : List Rc}, Tab l → Tab k → (∀ r ∈ l, ∃ s ∈ k, s.nm = r.nm ∧ s.st = r.st) → (∀ s n, tot ((l.filter (atP s n)).map Rc.ag) = tot ((k.filter (atP s n)).map Rc.ag)) → ∀ r ∈ l, r ∈ k := by
    intro l k hl hk h1 h3 r hr
    obtain ⟨s, hs, e1, e2⟩ := h1 r hr
    have e := h3 r.nm r.st
    rw [tot_at hl hr, ← e1, ← e2, tot_at hk hs] at e
    have : s = r := by
      obtain ⟨a, b, c⟩ := s
      obtain ⟨a', b', c'⟩ := r
      simp only at e1 e2 e
      rw [e1, e2, e]
    rw [← this]; exact hs
  have nd : ∀ {l : List Rc}, l.Pairwise Rc.lt → l.Nodup := fun h => h.imp fun {a b} hlt e => by subst e; exact ahead_irrefl _ _ hlt
  refine ord_ext hl.ord hk.ord ?_
  exact (List.perm_ext_iff_of_nodup (nd hl.ord) (nd hk.ord)).2 fun r => ⟨sub hl hk h1 h3 r, sub hk hl h2 (fun s n => (h3 s n).symm) r⟩
end Go.Proofs.YtcglbbabfkbcbadGreat
