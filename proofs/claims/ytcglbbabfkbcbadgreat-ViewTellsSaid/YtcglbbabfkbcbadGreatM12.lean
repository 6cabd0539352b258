/-
  Several texts in one: RefTabL, RefTabFr, RefAggV.
-/
import Derived.Test.YtcglbbabfkbcbadGreatTotV
/- A record put where it belongs, as the document does it: the list's beginning, the record, the rest. -/
namespace Go.Proofs.YtcglbbabfkbcbadGreat
open Go.RowKit

theorem putR_old {z : Rc} : ∀ {l : List Rc} {k : Nat} (hk : k < l.length), (∀ j (h : j < k), (l[j]'(by omega)).lt z) → z.same l[k] = true → putR z l = l.take k ++ z :: l.drop (k + 1)
  | [], _, hk, _, _ => by simp at hk
  | y :: r, 0, _, _, hs => by
    have hs' : z.same y = true := hs
    unfold putR
    rw [if_pos hs']; rfl
  | y :: r, k + 1, hk, hb, hs => by
    have h0 : y.lt z := hb 0 (by omega)
    have hns : z.same y = false := by rw [Rc.same_symm]; exact Rc.lt_not_same h0
    have hnl : ¬ z.lt y := fun h => by
      have := Rc.lt_trans h0 h
      have := Rc.lt_not_same this
      rw [Rc.same_iff.2 ⟨rfl, rfl⟩] at this
      cases this
    unfold putR
    rw [if_neg (by rw [hns]; simp), if_neg hnl, putR_old (l := r) (k := k) (by simpa using hk) (fun j h => hb (j + 1) (by omega)) hs]
    rfl
theorem putR_new {z : Rc} : ∀ {l : List Rc} {k : Nat} (_ : k ≤ l.length), (∀ j (_ : j < k) (h' : j < l.length), l[j].lt z) → (∀ h : k < l.length, z.lt l[k]) → putR z l = l.take k ++ z :: l.drop k
  | [], k, _, _, _ => by simp [putR]
  | y :: r, 0, _, _, hs => by
    have h0 : z.lt y := hs (by simp)
    unfold putR
    rw [if_neg (by rw [Rc.lt_not_same h0]; simp), if_pos h0]; rfl
  | y :: r, k + 1, hk, hb, hs => by
    have h0 : y.lt z := hb 0 (by omega) (by simp)
    have hns : z.same y = false := by rw [Rc.same_symm]; exact Rc.lt_not_same h0
    have hnl : ¬ z.lt y := fun h => by
      have := Rc.lt_trans h0 h
      have := Rc.lt_not_same this
      rw [Rc.same_iff.2 ⟨rfl, rfl⟩] at this
      cases this
    unfold putR
    rw [if_neg (by rw [hns]; simp), if_neg hnl, putR_new (l := r) (k := k) (by simpa using hk) (fun j h h' => hb (j + 1) (by omega) (by simpa using h')) (fun h => hs (by simpa using h))]
    rfl
theorem addR_old {ev : Int} {l : List Rc} {x : Rc} (hT : Tab l) (hr : rightR ev x = true) (hV : x.ag.V) {k : Nat} (hk : k < l.length) (hb : ∀ j (h : j < k), (l[j]'(by omega)).lt x) (hs : x.same l[k] = true) :
    addR ev l x = l.take k ++ ⟨x.nm, x.st, bothG l[k].ag x.ag⟩ :: l.drop (k + 1) := by
  obtain ⟨e1, e2⟩ := Rc.same_iff.1 hs
  have ha : agAt l x.nm x.st = l[k].ag := by
    unfold agAt
    rw [e1, e2, find_mem hT.ord (List.getElem_mem hk)]
  unfold addR
  rw [if_pos hr, (addR_V hT hV).1, ha, plus_V hV]
  exact putR_old (z := ⟨x.nm, x.st, bothG l[k].ag x.ag⟩) hk hb hs
theorem addR_new {ev : Int} {l : List Rc} {x : Rc} (hT : Tab l) (hr : rightR ev x = true) (hV : x.ag.V) {k : Nat} (hk : k ≤ l.length) (hb : ∀ j (_ : j < k) (h' : j < l.length), l[j].lt x) (hs : ∀ h : k < l.length, x.lt l[k]) :
    addR ev l x = l.take k ++ x :: l.drop k := by
  have hn : findR l x.nm x.st = none := by
    unfold findR
    rw [List.find?_eq_none]
    intro y hy
    obtain ⟨j, hj, rfl⟩ := List.mem_iff_getElem.1 hy
    have hne : x.same l[j] = false := by
      by_cases h1 : j < k
      · rw [Rc.same_symm]; exact Rc.lt_not_same (hb j h1 hj)
      · have hkl : k < l.length := by omega
        rcases Nat.lt_or_eq_of_le (show k ≤ j by omega) with h2 | h2
        · exact Rc.lt_not_same (Rc.lt_trans (hs hkl) (List.pairwise_iff_getElem.1 hT.ord k j hkl hj h2))
        · subst h2; exact Rc.lt_not_same (hs hkl)
    intro he
    have he' := of_decide_eq_true he
    rw [Rc.same_iff.2 ⟨he'.1.symm, he'.2.symm⟩] at hne
    cases hne
  have ha : agAt l x.nm x.st = Ag.zero := by unfold agAt; rw [hn]
  unfold addR
  rw [if_pos hr, (addR_V hT hV).1, ha, zero_plus hV.good]
  exact putR_new hk hb hs
end Go.Proofs.YtcglbbabfkbcbadGreat
/- A frame of 125 slots of which some are known: the others are what one function of the number says. -/
namespace Go.Proofs.YtcglbbabfkbcbadGreat
open Go.RowKit

/-- What is known of a frame. -/
def Fr125 (a : Act) (l : List (Nat × Value)) : Prop := a.defers = [] ∧ a.tmps.toList.length = 125 ∧ l.foldr (fun p r => a.tmps.toList[p.1]? = some p.2 ∧ r) True
theorem lits125 (l : List Value) : l = (List.range l.length).map fun i => l.getD i undef := by
  apply List.ext_getElem?
  intro i
  by_cases h : i < l.length
  · rw [List.getElem?_map, List.getElem?_range h, List.getElem?_eq_getElem h]
    simp [List.getD_eq_getElem?_getD, h]
  · rw [List.getElem?_eq_none (by omega), List.getElem?_eq_none (by simp; omega)]
set_option maxRecDepth 100000 in
theorem list125 (l : List Value) (h : l.length = 125) : ∃ u : Nat → Value, l = u 0 :: u 1 :: u 2 :: u 3 :: u 4 :: u 5 :: u 6 :: u 7 :: u 8 :: u 9 :: u 10 :: u 11 :: u 12 :: u 13 :: u 14 :: u 15 :: u 16 :: u 17 :: u 18 :: u 19 :: u 20 :: u 21 :: u 22 :: u 23 :: u 24 :: u 25 :: u 26 :: u 27 :: u 28 :: u 29 :: u 30 :: u 31 :: u 32 :: u 33 :: u 34 :: u 35 :: u 36 :: u 37 :: u 38 :: u 39 :: u 40 :: u 41 :: u 42 :: u 43 :: u 44 :: u 45 :: u 46 :: u 47 :: u 48 :: u 49 :: u 50 :: u 51 :: u 52 :: u 53 :: u 54 :: u 55 :: u 56 :: u 57 :: u 58 :: u 59 :: u 60 :: u 61 :: u 62 :: u 63 :: u 64 :: u 65 :: u 66 :: u 67 :: u 68 :: u 69 :: u 70 :: u 71 :: u 72 :: u 73 :: u 74 :: u 75 :: u 76 :: u 77 :: u 78 :: u 79 :: u 80 :: u 81 :: u 82 :: u 83 :: u 84 :: u 85 :: u 86 :: u 87 :: u 88 :: u 89 :: u 90 :: u 91 :: u 92 :: u 93 :: u 94 :: u 95 :: u 96 :: u 97 :: u 98 :: u 99 :: u 100 :: u 101 :: u 102 :: u 103 :: u 104 :: u 105 :: u 106 :: u 107 :: u 108 :: u 109 :: u 110 :: u 111 :: u 112 :: u 113 :: u 114 :: u 115 :: u 116 :: u 117 :: u 118 :: u 119 :: u 120 :: u 121 :: u 122 :: u 123 :: u 124 :: [] := by
  have h1 := lits125 l
  rw [h] at h1
  exact ⟨fun i => l.getD i undef, h1⟩
set_option maxRecDepth 100000 in
theorem fra_cut {a : Act} {v0 v3 v4 v5 : Value} (h : Fr125 a [(0, v0), (3, v3), (4, v4), (5, v5)]) : ∃ u : Nat → Value, a = ⟨List.toArray (v0 :: u 1 :: u 2 :: v3 :: v4 :: v5 :: u 6 :: u 7 :: u 8 :: u 9 :: u 10 :: u 11 :: u 12 :: u 13 :: u 14 :: u 15 :: u 16 :: u 17 :: u 18 :: u 19 :: u 20 :: u 21 :: u 22 :: u 23 :: u 24 :: u 25 :: u 26 :: u 27 :: u 28 :: u 29 :: u 30 :: u 31 :: u 32 :: u 33 :: u 34 :: u 35 :: u 36 :: u 37 :: u 38 :: u 39 :: u 40 :: u 41 :: u 42 :: u 43 :: u 44 :: u 45 :: u 46 :: u 47 :: u 48 :: u 49 :: u 50 :: u 51 :: u 52 :: u 53 :: u 54 :: u 55 :: u 56 :: u 57 :: u 58 :: u 59 :: u 60 :: u 61 :: u 62 :: u 63 :: u 64 :: u 65 :: u 66 :: u 67 :: u 68 :: u 69 :: u 70 :: u 71 :: u 72 :: u 73 :: u 74 :: u 75 :: u 76 :: u 77 :: u 78 :: u 79 :: u 80 :: u 81 :: u 82 :: u 83 :: u 84 :: u 85 :: u 86 :: u 87 :: u 88 :: u 89 :: u 90 :: u 91 :: u 92 :: u 93 :: u 94 :: u 95 :: u 96 :: u 97 :: u 98 :: u 99 :: u 100 :: u 101 :: u 102 :: u 103 :: u 104 :: u 105 :: u 106 :: u 107 :: u 108 :: u 109 :: u 110 :: u 111 :: u 112 :: u 113 :: u 114 :: u 115 :: u 116 :: u 117 :: u 118 :: u 119 :: u 120 :: u 121 :: u 122 :: u 123 :: u 124 :: []), []⟩ := by
  obtain ⟨hd, hs, h0, h3, h4, h5, _⟩ := h
  obtain ⟨t, d⟩ := a
  obtain ⟨l⟩ := t
  have hd' : d = [] := hd
  subst hd'
  obtain ⟨u, rfl⟩ := list125 l hs
  have e0 : u 0 = v0 := Option.some.inj h0; subst e0; have e3 : u 3 = v3 := Option.some.inj h3; subst e3; have e4 : u 4 = v4 := Option.some.inj h4; subst e4; have e5 : u 5 = v5 := Option.some.inj h5; subst e5
  exact ⟨u, rfl⟩
set_option maxRecDepth 100000 in
theorem fra_90 {a : Act} {v0 v3 v4 v5 v6 v90 : Value} (h : Fr125 a [(0, v0), (3, v3), (4, v4), (5, v5), (6, v6), (90, v90)]) : ∃ u : Nat → Value, a = ⟨List.toArray (v0 :: u 1 :: u 2 :: v3 :: v4 :: v5 :: v6 :: u 7 :: u 8 :: u 9 :: u 10 :: u 11 :: u 12 :: u 13 :: u 14 :: u 15 :: u 16 :: u 17 :: u 18 :: u 19 :: u 20 :: u 21 :: u 22 :: u 23 :: u 24 :: u 25 :: u 26 :: u 27 :: u 28 :: u 29 :: u 30 :: u 31 :: u 32 :: u 33 :: u 34 :: u 35 :: u 36 :: u 37 :: u 38 :: u 39 :: u 40 :: u 41 :: u 42 :: u 43 :: u 44 :: u 45 :: u 46 :: u 47 :: u 48 :: u 49 :: u 50 :: u 51 :: u 52 :: u 53 :: u 54 :: u 55 :: u 56 :: u 57 :: u 58 :: u 59 :: u 60 :: u 61 :: u 62 :: u 63 :: u 64 :: u 65 :: u 66 :: u 67 :: u 68 :: u 69 :: u 70 :: u 71 :: u 72 :: u 73 :: u 74 :: u 75 :: u 76 :: u 77 :: u 78 :: u 79 :: u 80 :: u 81 :: u 82 :: u 83 :: u 84 :: u 85 :: u 86 :: u 87 :: u 88 :: u 89 :: v90 :: u 91 :: u 92 :: u 93 :: u 94 :: u 95 :: u 96 :: u 97 :: u 98 :: u 99 :: u 100 :: u 101 :: u 102 :: u 103 :: u 104 :: u 105 :: u 106 :: u 107 :: u 108 :: u 109 :: u 110 :: u 111 :: u 112 :: u 113 :: u 114 :: u 115 :: u 116 :: u 117 :: u 118 :: u 119 :: u 120 :: u 121 :: u 122 :: u 123 :: u 124 :: []), []⟩ := by
  obtain ⟨hd, hs, h0, h3, h4, h5, h6, h90, _⟩ := h
  obtain ⟨t, d⟩ := a
  obtain ⟨l⟩ := t
  have hd' : d = [] := hd
  subst hd'
  obtain ⟨u, rfl⟩ := list125 l hs
  have e0 : u 0 = v0 := Option.some.inj h0; subst e0; have e3 : u 3 = v3 := Option.some.inj h3; subst e3; have e4 : u 4 = v4 := Option.some.inj h4; subst e4; have e5 : u 5 = v5 := Option.some.inj h5; subst e5; have e6 : u 6 = v6 := Option.some.inj h6; subst e6; have e90 : u 90 = v90 := Option.some.inj h90; subst e90
  exact ⟨u, rfl⟩
set_option maxRecDepth 100000 in
theorem fra_rest {a : Act} {v0 v3 v4 v5 v6 : Value} (h : Fr125 a [(0, v0), (3, v3), (4, v4), (5, v5), (6, v6)]) : ∃ u : Nat → Value, a = ⟨List.toArray (v0 :: u 1 :: u 2 :: v3 :: v4 :: v5 :: v6 :: u 7 :: u 8 :: u 9 :: u 10 :: u 11 :: u 12 :: u 13 :: u 14 :: u 15 :: u 16 :: u 17 :: u 18 :: u 19 :: u 20 :: u 21 :: u 22 :: u 23 :: u 24 :: u 25 :: u 26 :: u 27 :: u 28 :: u 29 :: u 30 :: u 31 :: u 32 :: u 33 :: u 34 :: u 35 :: u 36 :: u 37 :: u 38 :: u 39 :: u 40 :: u 41 :: u 42 :: u 43 :: u 44 :: u 45 :: u 46 :: u 47 :: u 48 :: u 49 :: u 50 :: u 51 :: u 52 :: u 53 :: u 54 :: u 55 :: u 56 :: u 57 :: u 58 :: u 59 :: u 60 :: u 61 :: u 62 :: u 63 :: u 64 :: u 65 :: u 66 :: u 67 :: u 68 :: u 69 :: u 70 :: u 71 :: u 72 :: u 73 :: u 74 :: u 75 :: u 76 :: u 77 :: u 78 :: u 79 :: u 80 :: u 81 :: u 82 :: u 83 :: u 84 :: u 85 :: u 86 :: u 87 :: u 88 :: u 89 :: u 90 :: u 91 :: u 92 :: u 93 :: u 94 :: u 95 :: u 96 :: u 97 :: u 98 :: u 99 :: u 100 :: u 101 :: u 102 :: u 103 :: u 104 :: u 105 :: u 106 :: u 107 :: u 108 :: u 109 :: u 110 :: u 111 :: u 112 :: u 113 :: u 114 :: u 115 :: u 116 :: u 117 :: u 118 :: u 119 :: u 120 :: u 121 :: u 122 :: u 123 :: u 124 :: []), []⟩ := by
  obtain ⟨hd, hs, h0, h3, h4, h5, h6, _⟩ := h
  obtain ⟨t, d⟩ := a
  obtain ⟨l⟩ := t
  have hd' : d = [] := hd
  subst hd'
  obtain ⟨u, rfl⟩ := list125 l hs
  have e0 : u 0 = v0 := Option.some.inj h0; subst e0; have e3 : u 3 = v3 := Option.some.inj h3; subst e3; have e4 : u 4 = v4 := Option.some.inj h4; subst e4; have e5 : u 5 = v5 := Option.some.inj h5; subst e5; have e6 : u 6 = v6 := Option.some.inj h6; subst e6
  exact ⟨u, rfl⟩
end Go.Proofs.YtcglbbabfkbcbadGreat
/- The document's own Valid and Merge. -/
namespace Go.Proofs.YtcglbbabfkbcbadGreat
open Go.RowKit

set_option maxHeartbeats 1000000 in
theorem refValid_any (a : Ag) (w : World) : Calls Tryz.prog 84 #[a.val] w fun e w' => e = .returned (.bool (validG a)) ∧ w' = w.alloc (.cells #[.int .i64 a.c, .int .i64 a.hi, .int .u64 a.lo, .int .i64 a.mn, .int .i64 a.mx] 59) := by
  by_cases h1 : 1 ≤ a.c
  · by_cases h2 : a.c ≤ 4611686018427387904
    · have HF := Lib.hid (show validG a = decide (a.mn ≤ a.mx) from by unfold validG; simp [h1, h2])
      go_enter Tryz.func84, Tryz.ntmps84
      go_wp2
      go_ret
      exact ⟨ret_bool HF.out.symm, rfl⟩
    · have HF := Lib.hid (show validG a = false from by unfold validG; simp [h2])
      have hd : decide (a.c ≤ 4611686018427387904) = false := decide_eq_false h2
      go_enter Tryz.func84, Tryz.ntmps84
      go_wp2
      go_ret
      exact ⟨ret_bool HF.out.symm, rfl⟩
  · have HF := Lib.hid (show validG a = false from by unfold validG; simp [h1])
    have hd : decide (1 ≤ a.c) = false := decide_eq_false h1
    go_enter Tryz.func84, Tryz.ntmps84
    go_wp2
    go_ret
    exact ⟨ret_bool HF.out.symm, rfl⟩
theorem ref_hi (x y la lb : Int) (ha : 0 ≤ la ∧ la ≤ 18446744073709551615) (hb : 0 ≤ lb ∧ lb ≤ 18446744073709551615) :
    IntKind.i64.wrap ((IntKind.u64.wrap x + IntKind.u64.wrap y + (la + lb) / 18446744073709551616) % 18446744073709551616) = if IntKind.u64.wrap (la + lb) < la then wrap64 (wrap64 (x + y) + 1) else wrap64 (x + y) := by
  unfold wrap64
  simp only [IntKind.wrap_i64, wrapU]
  split <;> omega
theorem ref_eq {a b : Ag} (ha : a.V) (hb : b.V) : bothG a b = ⟨if a.c ≤ 4611686018427387904 - b.c then a.c + b.c else 4611686018427387904, if IntKind.u64.wrap (a.lo + b.lo) < a.lo then wrap64 (wrap64 (a.hi + b.hi) + 1) else wrap64 (a.hi + b.hi), IntKind.u64.wrap (a.lo + b.lo), min a.mn b.mn, max a.mx b.mx⟩ := by
  have h1 := ha.cnt
  rw [← ref_hi _ _ _ _ ha.ok.lo hb.ok.lo, wrapU (a.lo + b.lo)]
  unfold bothG
  rw [if_neg (by omega)]
  congr 1
  split <;> split <;> omega
set_option maxRecDepth 100000 in
set_option maxHeartbeats 4000000 in
theorem refMerge_z (b : Ag) (hb : b.V) (w : World) : Calls Tryz.prog 86 #[Ag.zero.val, b.val] w fun e w' => e = .returned b.val ∧ Below w.heap.size w w' := by
  have va : validG Ag.zero = false := by decide
  have vb := hb.v
  clear hb
  go_enter Tryz.func86, Tryz.ntmps86
  go_wp2_with (first
    | (go_at_call 84; ((with_reducible refine (refValid_any Ag.zero _).mono ?_); rintro e wq ⟨rfl, rfl⟩))
    | (go_at_call 84; ((with_reducible refine (refValid_any b _).mono ?_); rintro e wq ⟨rfl, rfl⟩)))
  exact bodyPost_ret (v := b.val) (by simp [results, Tryz.results86, go_sem]) rfl ⟨rfl, by repeat (first | exact Below.refl _ _ | refine Below.setCell ?_ (by simp; try omega) _ | refine Below.alloc ?_ (by simp; try omega) _)⟩
set_option maxRecDepth 100000 in
set_option maxHeartbeats 4000000 in
theorem refMerge_V (a b : Ag) (ha : a.V) (hb : b.V) (w : World) : Calls Tryz.prog 86 #[a.val, b.val] w fun e w' => e = .returned (bothG a b).val ∧ Below w.heap.size w w' := by
  have va := ha.v
  have vb := hb.v
  have na := ha.cnt
  have nb := hb.cnt
  obtain ⟨a1, a2, a3⟩ := na
  obtain ⟨b1, b2, b3⟩ := nb
  have HE := Lib.hid (ref_eq ha hb)
  clear ha hb
  go_enter Tryz.func86, Tryz.ntmps86
  go_wp2_with (first
    | (go_at_call 84; ((with_reducible refine (refValid_any a _).mono ?_); rintro e wq ⟨rfl, rfl⟩))
    | (go_at_call 84; ((with_reducible refine (refValid_any b _).mono ?_); rintro e wq ⟨rfl, rfl⟩)))
  · have h1 : a.c ≤ 4611686018427387904 - b.c := by assumption
    have h2 : IntKind.u64.wrap (a.lo + b.lo) < a.lo := by assumption
    have he := HE.out
    rw [if_pos h1, if_pos h2] at he
    exact bodyPost_ret (v := (bothG a b).val) (by rw [he]; simp [results, Tryz.results86, go_sem]) rfl ⟨rfl, by repeat (first | exact Below.refl _ _ | refine Below.setCell ?_ (by simp; try omega) _ | refine Below.alloc ?_ (by simp; try omega) _)⟩
  · have h1 : a.c ≤ 4611686018427387904 - b.c := by assumption
    have h2 : ¬ IntKind.u64.wrap (a.lo + b.lo) < a.lo := Int.not_lt.2 (by assumption)
    have he := HE.out
    rw [if_pos h1, if_neg h2] at he
    exact bodyPost_ret (v := (bothG a b).val) (by rw [he]; simp [results, Tryz.results86, go_sem]) rfl ⟨rfl, by repeat (first | exact Below.refl _ _ | refine Below.setCell ?_ (by simp; try omega) _ | refine Below.alloc ?_ (by simp; try omega) _)⟩
  · have h1 : ¬ a.c ≤ 4611686018427387904 - b.c := Int.not_le.2 (by assumption)
    have h2 : IntKind.u64.wrap (a.lo + b.lo) < a.lo := by assumption
    have he := HE.out
    rw [if_neg h1, if_pos h2] at he
    exact bodyPost_ret (v := (bothG a b).val) (by rw [he]; simp [results, Tryz.results86, go_sem]) rfl ⟨rfl, by repeat (first | exact Below.refl _ _ | refine Below.setCell ?_ (by simp; try omega) _ | refine Below.alloc ?_ (by simp; try omega) _)⟩
  · have h1 : ¬ a.c ≤ 4611686018427387904 - b.c := Int.not_le.2 (by assumption)
    have h2 : ¬ IntKind.u64.wrap (a.lo + b.lo) < a.lo := Int.not_lt.2 (by assumption)
    have he := HE.out
    rw [if_neg h1, if_neg h2] at he
    exact bodyPost_ret (v := (bothG a b).val) (by rw [he]; simp [results, Tryz.results86, go_sem]) rfl ⟨rfl, by repeat (first | exact Below.refl _ _ | refine Below.setCell ?_ (by simp; try omega) _ | refine Below.alloc ?_ (by simp; try omega) _)⟩
theorem refMerge_any (a b : Ag) (ha : a.Good) (hb : b.V) (w : World) : Calls Tryz.prog 86 #[a.val, b.val] w fun e w' => e = .returned (plus a b).val ∧ Below w.heap.size w w' := by
  rw [plus_V hb]
  rcases ha with rfl | ha
  · rw [both_zero]; exact refMerge_z b hb w
  · exact refMerge_V a b ha hb w
end Go.Proofs.YtcglbbabfkbcbadGreat
