/-
  Several texts in one: NameGrowsV, ShelfSort, SortV, RowsK.
-/
import Derived.Test.YtcglbbabfkbcbadGreatM4
import Derived.Sort.Grow
import Derived.Deep.Draws
import Derived.Deep.RegionHeld3
import Derived.Shelf.SlSortCmp.NoneTotal
import Derived.Shelf.SlMaps.Clone
import Derived.Ground.SlsfProg
import Derived.Ground.SlmcProg
import Derived.Test.YtcglbbabfkbcbadGreatProg
import Derived.Test.YtcglbbabfkbcbadGreatM3
import Derived.Test.YtcglbbabfkbcbadGreatM1
import Derived.Sort.OwnSorted
/- name.Compare, with what it leaves behind: blocks and draws, no more. -/
namespace Go.Proofs.YtcglbbabfkbcbadGreat
open Go.RowKit Go.Sort

/-- w' is w with blocks laid behind it, and some draws. -/
def Grew (w w' : World) : Prop := ∃ q os, w' = grow (w.drewN q) os
theorem Grew.refl (w : World) : Grew w w := ⟨0, #[], by simp [grow, World.drewN]⟩
theorem Grew.alloc {w w' : World} (h : Grew w w') (o : Obj) : Grew w (w'.alloc o) := by
  obtain ⟨q, os, rfl⟩ := h
  exact ⟨q, os ++ #[o], by rw [alloc_eq_grow, grow_grow]⟩
theorem Grew.drew {w w' : World} (h : Grew w w') : Grew w w'.drew := by
  obtain ⟨q, os, rfl⟩ := h
  exact ⟨q + 1, os, rfl⟩
set_option maxHeartbeats 1000000 in
theorem compare_grows (a b : ByteArray) (x y : Int) (r s t u v r' s' t' u' v' : Value) (w : World) :
    Calls Tryz.prog 28 #[.agg #[.string a, .int .i64 x, r, s, t, u, v], .agg #[.string b, .int .i64 y, r', s', t', u', v']] w fun e w' => e = .returned (.int .i64 (cmpR a.toList x b.toList y)) ∧ Grew w w' := by
  go_enter Tryz.func28, Tryz.ntmps28
  go_wp2
  go_region_held3 (fun w' => w'.cell? ⟨w.heap.size, 0, none⟩ = some (.string a) ∧ w'.cell? ⟨w.heap.size, 1, none⟩ = some (.int .i64 x) ∧ w'.cell? ⟨w.heap.size + 1, 0, none⟩ = some (.string b) ∧ w'.cell? ⟨w.heap.size + 1, 1, none⟩ = some (.int .i64 y))
    (first | assumption | (simp [go_sem, World.cell?_alloc_past]))
    (first
      | (go_at_call 80; refine (cmpS_any _ _ _).mono ?_; rintro e w' ⟨rfl, rfl⟩)
      | (go_at_call 81; refine (cmpI_any _ _ _).mono ?_; rintro e w' ⟨rfl, rfl⟩)
      | (go_at_call 79; refine (or_any (cmpS a.toList b.toList) (cmpI x y) _ _ (by simp [go_sem]) (by simp [go_sem])).mono ?_; rintro e w' ⟨rfl, rfl⟩))
  go_wp2
  go_ret
  exact ⟨rfl, by repeat (first | exact Grew.refl _ | refine Grew.drew ?_ | refine Grew.alloc ?_ _)⟩
end Go.Proofs.YtcglbbabfkbcbadGreat
/- The shelf's contracts, laid at this translation in plain words (out of a laying by the kit's own tool, by names). -/
namespace Go.Proofs
open Go.Shelf
def Tryz.sortR_ren : Go.Shelf.Ren := ⟨fun | 6 => 27 | 15 => 78 | 14 => 77 | 28 => 116 | 29 => 117 | 20 => 108 | 21 => 109 | 22 => 110 | 23 => 111 | 24 => 112 | 25 => 113 | 26 => 114 | 27 => 115 | 46 => 122 | 47 => 123 | 48 => 124 | 49 => 125 | 50 => 126 | 57 => 127 | n => n, fun | 22 => 49 | 24 => 61 | 25 => 86 | 3 => 3 | 39 => 115 | 0 => 0 | 53 => 158 | 55 => 57 | 4 => 4 | 46 => 152 | 45 => 151 | 50 => 89 | 5 => 5 | 9 => 9 | 66 => 161 | 70 => 165 | 76 => 168 | 77 => 169 | n => n, fun | n => n⟩
theorem Tryz.sortR : Go.Proofs.SlLaysF0.n6 Tryz.prog Tryz.sortR_ren := {
  mixed := by kernel_rfl
  f6 := ⟨Tryz.f27.name, by decide, Tryz.func27.trans (congrArg some (by kernel_rfl))⟩
  f14 := ⟨Tryz.f77.name, by decide, Tryz.func77.trans (congrArg some (by kernel_rfl))⟩
  f15 := Tryz.func78.trans (congrArg some (by kernel_rfl))
  f20 := ⟨Tryz.f108.name, by decide, Tryz.func108.trans (congrArg some (by kernel_rfl))⟩
  f21 := ⟨Tryz.f109.name, by decide, Tryz.func109.trans (congrArg some (by kernel_rfl))⟩
  f22 := ⟨Tryz.f110.name, by decide, Tryz.func110.trans (congrArg some (by kernel_rfl))⟩
  f23 := ⟨Tryz.f111.name, by decide, Tryz.func111.trans (congrArg some (by kernel_rfl))⟩
  f24 := ⟨Tryz.f112.name, by decide, Tryz.func112.trans (congrArg some (by kernel_rfl))⟩
  f25 := ⟨Tryz.f113.name, by decide, Tryz.func113.trans (congrArg some (by kernel_rfl))⟩
  f26 := ⟨Tryz.f114.name, by decide, Tryz.func114.trans (congrArg some (by kernel_rfl))⟩
  f27 := ⟨Tryz.f115.name, by decide, Tryz.func115.trans (congrArg some (by kernel_rfl))⟩
  f28 := Tryz.func116.trans (congrArg some (by kernel_rfl))
  f29 := Tryz.func117.trans (congrArg some (by kernel_rfl))
  f46 := ⟨Tryz.f122.name, by decide, Tryz.func122.trans (congrArg some (by kernel_rfl))⟩
  f47 := Tryz.func123.trans (congrArg some (by kernel_rfl))
  f48 := Tryz.func124.trans (congrArg some (by kernel_rfl))
  f49 := ⟨Tryz.f125.name, by decide, Tryz.func125.trans (congrArg some (by kernel_rfl))⟩
  f50 := ⟨Tryz.f126.name, by decide, Tryz.func126.trans (congrArg some (by kernel_rfl))⟩
  f57 := ⟨Tryz.f127.name, by decide, Tryz.func127.trans (congrArg some (by kernel_rfl))⟩
  t0 := Tryz.underlying0
  a0 := Tryz.isAgg0
  z0 := Tryz.sizeOf0
  v0 := Tryz.zeroValue0
  t3 := Tryz.underlying3
  a3 := Tryz.isAgg3
  z3 := Tryz.sizeOf3
  v3 := Tryz.zeroValue3
  t4 := Tryz.underlying4
  a4 := Tryz.isAgg4
  z4 := Tryz.sizeOf4
  v4 := Tryz.zeroValue4
  t5 := Tryz.underlying5
  a5 := Tryz.isAgg5
  z5 := Tryz.sizeOf5
  v5 := Tryz.zeroValue5
  t9 := Tryz.underlying9
  a9 := Tryz.isAgg9
  z9 := Tryz.sizeOf9
  v9 := Tryz.zeroValue9
  t22 := Tryz.underlying49
  a22 := Tryz.isAgg49
  z22 := Tryz.sizeOf49
  v22 := Tryz.zeroValue49
  t25 := Tryz.underlying86
  a25 := Tryz.isAgg86
  z25 := Tryz.sizeOf86
  v25 := Tryz.zeroValue86
  t39 := Tryz.underlying115
  a39 := Tryz.isAgg115
  z39 := Tryz.sizeOf115
  v39 := Tryz.zeroValue115
  t45 := Tryz.underlying151
  a45 := Tryz.isAgg151
  z45 := Tryz.sizeOf151
  v45 := Tryz.zeroValue151
  t46 := Tryz.underlying152
  a46 := Tryz.isAgg152
  z46 := Tryz.sizeOf152
  v46 := Tryz.zeroValue152
  t50 := Tryz.underlying89
  a50 := Tryz.isAgg89
  z50 := Tryz.sizeOf89
  v50 := Tryz.zeroValue89
  t53 := Tryz.underlying158
  a53 := Tryz.isAgg158
  z53 := Tryz.sizeOf158
  v53 := Tryz.zeroValue158
  t55 := Tryz.underlying57
  a55 := Tryz.isAgg57
  z55 := Tryz.sizeOf57
  v55 := Tryz.zeroValue57
  t66 := Tryz.underlying161
  a66 := Tryz.isAgg161
  z66 := Tryz.sizeOf161
  v66 := Tryz.zeroValue161
  t70 := Tryz.underlying165
  a70 := Tryz.isAgg165
  z70 := Tryz.sizeOf165
  v70 := Tryz.zeroValue165
  t76 := Tryz.underlying168
  a76 := Tryz.isAgg168
  z76 := Tryz.sizeOf168
  v76 := Tryz.zeroValue168
  t77 := Tryz.underlying169
  a77 := Tryz.isAgg169
  z77 := Tryz.sizeOf169
  v77 := Tryz.zeroValue169 }
end Go.Proofs
/- slices.SortFunc at records, by name.Compare. -/
namespace Go.Proofs.YtcglbbabfkbcbadGreat
open Go.RowKit Go.Maps Go.Sort Go.Shelf

instance : Inhabited Rc := ⟨⟨default, 0, Ag.zero⟩⟩
def cmpRc (r s : Rc) : Int := cmpR r.nm.toList r.st s.nm.toList s.st
theorem ltOf_rc (r s : Rc) : ltOf cmpRc r s = aheadB r.nm.toList r.st s.nm.toList s.st := rfl
theorem swo_rc : SWO (ltOf cmpRc) where
  irrefl x := by rw [ltOf_rc]; exact aheadB_irrefl _ _
  trans x y z h1 h2 := by rw [ltOf_rc] at *; exact aheadB_trans h1 h2
  ntrans x y z h1 h2 := by
    rw [ltOf_rc] at *
    cases h3 : aheadB x.nm.toList x.st z.nm.toList z.st
    · rfl
    · cases h4 : aheadB z.nm.toList z.st y.nm.toList y.st
      · cases h5 : aheadB y.nm.toList y.st z.nm.toList z.st
        · obtain ⟨e1, e2⟩ := aheadB_total h4 h5
          rw [e1, e2, h1] at h3; cases h3
        · rw [h2] at h5; cases h5
      · have := aheadB_trans h3 h4
        rw [h1] at this; cases this
theorem cmp_lays (blk off size : Nat) (w : World) : CmpLays Tryz.prog 28 #[] Rc.cells 7 cmpRc blk off size w := fun _ _ _ _ x y =>
  (compare_grows x.nm y.nm x.st y.st _ _ _ _ _ _ _ _ _ _ _).mono fun _ _ ⟨h1, h2⟩ => ⟨h1, h2⟩
theorem one_cells (x : Rc) : ∀ v ∈ x.cells, v.oneCell' = true := by
  intro v hv
  simp [Rc.cells, Ag.cells] at hv
  rcases hv with rfl | rfl | rfl | rfl | rfl | rfl | rfl <;> rfl
/-- The row of records in a block is sorted. -/
theorem sort_any (blk off cap : Nat) (d : Array Rc) (w : World) (hH : HoldsK Rc.cells 7 w blk off d) (hblk : blk < w.heap.size) (hsz : d.size < 4611686018427387904) :
    Calls Tryz.prog 27 #[.slice (some ⟨blk, off, none⟩) d.size cap, .func (.func 28) #[] #[]] w fun e w' => e = .returned (.tuple #[]) ∧ ∃ d' n os, PermIn 0 d.size d d' ∧ SortedIn (ltOf cmpRc) 0 d.size d' ∧ w' = sortWorldK Rc.cells 7 w blk off n d' os :=
  AnyQ.slices_SortFunc Tryz.sortR 7 Tryz.isAgg61 Tryz.sizeOf61 Rc.cells (fun _ => rfl) one_cells cmpRc swo_rc 28 #[] blk off cap d w (enters_of Tryz.func28 (by kernel_rfl) rfl) (cmp_lays blk off d.size w) hH hblk hsz
end Go.Proofs.YtcglbbabfkbcbadGreat
/- Rows of elements of k cells: flat, held, sorted. -/
namespace Go.Proofs.YtcglbbabfkbcbadGreat
open Go.RowKit Go.Sort Go.Shelf

section
variable {α : Type} [Inhabited α] {cs : α → List Value} {k : Nat}
omit [Inhabited α] in
theorem rowK_len (hk : ∀ x, (cs x).length = k) : ∀ l : List α, (l.flatMap cs).length = l.length * k
  | [] => by simp
  | a :: r => by rw [List.flatMap_cons, List.length_append, hk, rowK_len hk r, List.length_cons, Nat.add_mul]; omega
omit [Inhabited α] in
theorem rowK_get (hk : ∀ x, (cs x).length = k) (l : List α) (j : Nat) (hj : j < l.length) (q : Nat) (hq : q < k) : (l.flatMap cs)[j * k + q]? = (cs l[j])[q]? := by
  induction l generalizing j with
  | nil => simp at hj
  | cons a r ih =>
    rw [List.flatMap_cons]
    cases j with
    | zero =>
      rw [List.getElem?_append_left (by rw [hk]; omega)]; simp
    | succ j =>
      have e : (j + 1) * k + q = k + (j * k + q) := by rw [Nat.add_mul]; omega
      rw [List.getElem?_append_right (by rw [hk]; omega), hk, e, Nat.add_sub_cancel_left, ih j (by simp at hj; omega)]; rfl
theorem flatK_list (hk : ∀ x, (cs x).length = k) (l : List α) : (flatK cs k l.toArray).toList = l.flatMap cs := by
  apply List.ext_getElem?
  intro t
  by_cases ht : t < l.length * k
  · have k0 : 0 < k := by rcases Nat.eq_zero_or_pos k with h | h
                          · subst h; simp at ht
                          · exact h
    have hj : t / k < l.length := by rw [Nat.div_lt_iff_lt_mul k0]; exact ht
    have hq : t % k < k := Nat.mod_lt _ k0
    have e := rowK_get hk l (t / k) hj (t % k) hq
    rw [Nat.div_add_mod' t k] at e
    rw [e, Array.getElem?_toList]
    have h1 := get_flatK cs k l.toArray t (by simpa using ht)
    have h2 : t < (flatK cs k l.toArray).size := by simpa using ht
    rw [Array.getElem?_eq_getElem h2, ← getElem!_pos _ t h2, h1]
    have h3 : l.toArray[t / k]! = l[t / k] := by simp [hj]
    rw [h3, getElem!_pos _ _ (by rw [hk]; exact hq), List.getElem?_eq_getElem (by rw [hk]; exact hq)]
  · have h2 : (l.flatMap cs).length ≤ t := by rw [rowK_len hk]; omega
    rw [List.getElem?_eq_none (by simpa using ht), List.getElem?_eq_none h2]
theorem putCells_take (F cur : Array Value) (h : F.size ≤ cur.size) : (putCells id 0 F cur).toList.take F.size = F.toList := by
  apply List.ext_getElem?
  intro j
  by_cases hj : j < F.size
  · rw [List.getElem?_take_of_lt hj, Array.getElem?_toList]
    simp [putCells, hj, show j < cur.size by omega]
  · rw [List.getElem?_take_eq_none (by omega), List.getElem?_eq_none (by simp; omega)]
theorem heap_sortedK {w : World} {g n : Nat} {os : Array Obj} {cur : Array Value} {e : TypeId} {fr : Nat × Nat} (d : Array α) (hb : w.heap[g]? = some (.cells cur e fr)) :
    (sortWorldK cs k w g 0 n d os).heap[g]? = some (.cells (putCells id 0 (flatK cs k d) cur) e fr) := by
  have hg : g < w.heap.size := (Array.getElem?_eq_some_iff.1 hb).1
  unfold sortWorldK putRowK
  rw [heap_grow_old _ _ (by simpa using hg)]
  simp [putRow, mapBlock, Sort.ahead, Array.getElem?_modify, hb, onCells]
theorem grownBy_sortedK {w : World} {g n : Nat} {os : Array Obj} (d : Array α) : w.grownBy (sortWorldK cs k w g 0 n d os) (some g) := by
  unfold sortWorldK putRowK
  refine ⟨rfl, rfl, rfl, by simp, fun j hj hne => ?_⟩
  rw [heap_grow_old _ _ (by simpa using hj)]
  have : g ≠ j := fun e => hne (by rw [e])
  simp [putRow, mapBlock, Sort.ahead, Array.getElem?_modify, this]
theorem holdsK_of_block (hk : ∀ x, (cs x).length = k) {w : World} {g : Nat} {cur : Array Value} {e : TypeId} {l : List α} (hb : w.heap[g]? = some (.cells cur e (0, 0))) (ht : cur.toList.take (l.length * k) = l.flatMap cs) : HoldsK cs k w g 0 l.toArray := by
  intro j hj
  have hj' : j < l.length * k := by simpa using hj
  refine ⟨?_, by simp [World.frozen?, hb]⟩
  have h1 : (cur.toList.take (l.length * k))[j]? = (flatK cs k l.toArray).toList[j]? := by rw [ht, flatK_list hk]
  rw [List.getElem?_take_of_lt hj', Array.getElem?_toList, Array.getElem?_toList] at h1
  simp only [World.cell?, hb, Nat.zero_add]
  simp only [Option.isSome_none, Bool.false_eq_true, if_false]
  rw [h1, Array.getElem?_eq_getElem hj, ← getElem!_pos _ j hj]
  rfl
/-- Behind the sort the same slice owns the sorted list. -/
theorem ownsRow_sortedK (hk : ∀ x, (cs x).length = k) {w : World} {base g cap n m : Nat} {e : TypeId} {os : Array Obj} {cur : Array Value} {l : List α} (hl : l.length = m) (hbase : base ≤ g) (hb : w.heap[g]? = some (.cells cur e (0, 0)))
    (h1 : m ≤ cap) (h2 : cap ≤ maxLen) (h3 : cur.size = cap * k) :
    (sortWorldK cs k w g 0 n l.toArray os).ownsRow base e k (.slice (some ⟨g, 0, none⟩) m cap) m (l.flatMap cs) :=
  ⟨by rw [rowK_len hk, hl], .inr ⟨g, cap, _, rfl, hbase, heap_sortedK _ hb, h1, h2, by simp [putCells, h3], by
    have := putCells_take (flatK cs k l.toArray) cur (by rw [size_flatK, h3]; simp; rw [hl]; exact Nat.mul_le_mul_right _ h1)
    rw [size_flatK] at this
    simp only [List.size_toArray, hl] at this
    rw [this, flatK_list hk]⟩⟩
end
end Go.Proofs.YtcglbbabfkbcbadGreat
