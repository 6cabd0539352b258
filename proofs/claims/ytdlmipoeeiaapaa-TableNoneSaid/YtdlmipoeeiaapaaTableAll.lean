/-
  All: the records of a table, in order.
-/
import Derived.Test.YtdlmipoeeiaapaaTableSort
import Derived.Test.YtdlmipoeeiaapaaTableFind
import Derived.Test.YtdlmipoeeiaapaaTableDrop
import Derived.Test.YtdlmipoeeiaapaaRowsK
import Derived.Maps.AppendAt
import Derived.Laws.OwnMore
namespace Go.Proofs.Ytdlmipoeeiaapaa
open Go.RowKit Go.Maps Go.Shelf

theorem rc_len (r : Rc) : r.cells.length = 7 := rfl
theorem info_rec : (Try.prog.info? 34).map (fun i => (i.zero, i.size, i.bytes)) = some (some (.agg #[.string ByteArray.empty, .int .i64 0, .int .i64 0, .int .i64 0, .int .u64 0, .int .i64 0, .int .i64 0]), 7, 64) := by kernel_rfl
theorem cells_new (w : World) (cs : Array Value) (T : TypeId) : ∀ j u, cs.toList[j]? = some u → (w.alloc (.cells cs T)).cell? ((⟨w.heap.size, 0, none⟩ : Addr).add j) = some u := by
  intro j u h
  rw [Addr.add_lit, Nat.zero_add, cell_of_row _ _ j _ _ _ (heap_alloc_new w _)]
  simpa using h
/-- The records that a range has come by. -/
def came (l : List Rc) (left : Lit → Bool) : List Rc := l.filter fun r => !left (klit r.nm r.st)
theorem came_start {D : DataW Unit} {l : List Rc} (h : Rep D l) : came l (Maps.has D) = [] := by
  unfold came
  rw [List.filter_eq_nil_iff]
  intro r hr
  rw [h.has (h.ok r hr).nm (h.ok r hr).st]
  simp only [Bool.not_eq_true', Bool.not_eq_false]
  unfold findR
  rw [List.find?_isSome]
  exact ⟨r, hr, by simp⟩
theorem came_end {l : List Rc} {left : Lit → Bool} (h : ∀ kl, left kl = false) : came l left = l := by
  unfold came
  exact List.filter_eq_self.2 (fun r _ => by rw [h]; rfl)
theorem came_step {D : DataW Unit} {l : List Rc} (h : Rep D l) {left : Lit → Bool} {r0 : Rc} (hr : r0 ∈ l) (hl : left (klit r0.nm r0.st) = true) : (came l fun z => left z && !z.sameKey (klit r0.nm r0.st)).Perm (r0 :: came l left) := by
  obtain ⟨a, b, rfl⟩ := List.append_of_mem hr
  have hord := h.ord
  rw [List.pairwise_append, List.pairwise_cons] at hord
  obtain ⟨_, ⟨hb, _⟩, hab⟩ := hord
  have hne : ∀ x ∈ a ++ r0 :: b, x.same r0 = false → (left (klit x.nm x.st) && !(klit x.nm x.st).sameKey (klit r0.nm r0.st)) = left (klit x.nm x.st) := by
    intro x hx hs
    have : (klit x.nm x.st).sameKey (klit r0.nm r0.st) = false := by
      cases hk : (klit x.nm x.st).sameKey (klit r0.nm r0.st)
      · rfl
      · have e := (klit_iff (h.ok x hx) (h.ok r0 hr).nm (h.ok r0 hr).st).1 (same_klit.1 hk)
        rw [Rc.same_iff.2 e] at hs; cases hs
    rw [this]; simp
  have e1 : came a (fun z => left z && !z.sameKey (klit r0.nm r0.st)) = came a left := by
    unfold came
    apply List.filter_congr
    intro x hx
    exact congrArg Bool.not (hne x (by simp [hx]) (Rc.lt_not_same (hab x hx r0 (by simp))))
  have e2 : came b (fun z => left z && !z.sameKey (klit r0.nm r0.st)) = came b left := by
    unfold came
    apply List.filter_congr
    intro x hx
    exact congrArg Bool.not (hne x (by simp [hx]) (by rw [Rc.same_symm]; exact Rc.lt_not_same (hb x hx)))
  have e3 : (klit r0.nm r0.st).sameKey (klit r0.nm r0.st) = true := same_klit.2 rfl
  unfold came at *
  rw [List.filter_append, List.filter_append, List.filter_cons, List.filter_cons, e1, e2, if_pos (by show (!(left _ && !(klit r0.nm r0.st).sameKey (klit r0.nm r0.st))) = true; rw [e3]; simp), if_neg (by rw [hl]; simp)]
  exact List.perm_middle
/-- Sorted, and of other places each: that is the list in order. -/
theorem sorted_is {l xs : List Rc} {d' : Array Rc} (hl : l.Pairwise Rc.lt) (hx : xs.Perm l) (hp : Go.Sort.PermIn 0 xs.toArray.size xs.toArray d') (hs : Go.Sort.SortedIn (ltOf cmpRc) 0 xs.toArray.size d') : d'.toList = l := by
  obtain ⟨hsz, _, hperm⟩ := hp
  have e1 : d'.extract 0 xs.toArray.size = d' := by rw [← hsz]; exact Array.extract_size
  rw [e1, Array.extract_size] at hperm
  have hpl : d'.toList.Perm l := hperm.trans hx
  have hap : l.Pairwise (fun r s => r.same s = false) := hl.imp Rc.lt_not_same
  have hap' : d'.toList.Pairwise (fun r s => r.same s = false) := (hpl.pairwise_iff (fun {r s} h => by rw [Rc.same_symm]; exact h)).2 hap
  refine ord_ext ?_ hl hpl
  rw [List.pairwise_iff_getElem] at hap' ⊢
  intro i j hi hj hij
  have h1 := hap' i j hi hj hij
  have h2 := hs i j (Nat.zero_le _) hij (by rw [← hsz]; simpa using hj)
  simp at hi hj
  rw [getElem!_pos d' i hi, getElem!_pos d' j hj, ltOf_rc] at h2
  simp only [Array.getElem_toList] at h1 ⊢
  refine Rc.total ?_ (by rw [Rc.same_symm]; exact h1)
  intro h3
  unfold Rc.lt at h3
  rw [(aheadB_iff _ _ _ _).2 h3] at h2
  cases h2
theorem sort_none (p : Option Addr) (cap : Nat) (w : World) :
    Calls Try.prog 33 #[.slice p 0 cap, .func (.func 34) #[] #[]] w fun e w' => e = .returned (.tuple #[]) ∧ w' = w :=
  AnyF.slices_SortFunc_none Try.sortR p cap _ w
/-- A row of records, sorted: the same slice has them in order. -/
theorem sort_row {w : World} {base : Nat} {v : Value} {l xs : List Rc} (h : w.ownsRow base 34 7 v xs.length (xs.flatMap Rc.cells)) (hl : l.Pairwise Rc.lt) (hx : xs.Perm l) (hfew : xs.length < 1000000) :
    Calls Try.prog 33 #[v, .func (.func 34) #[] #[]] w fun e w' => e = .returned (.tuple #[]) ∧ w'.ownsRow base 34 7 v l.length (l.flatMap Rc.cells) ∧ w.grownBy w' v.ownBlock := by
  have hln : l.length = xs.length := hx.length_eq.symm
  rcases h.2 with ⟨rfl, h0⟩ | ⟨g, cap, cur, rfl, hg, hb, hc, hcm, hcs, ht⟩
  · refine (sort_none none 0 w).mono ?_
    rintro e w' ⟨rfl, rfl⟩
    have e1 : xs = [] := List.eq_nil_of_length_eq_zero h0
    subst e1
    have e2 : l = [] := List.eq_nil_of_length_eq_zero hln
    subst e2
    exact ⟨rfl, h, World.grownBy.refl _ _⟩
  · have hH := holdsK_of_block (cs := Rc.cells) (k := 7) rc_len hb ht
    have hS := sort_any g 0 cap xs.toArray w hH (lt_of_block hb) (by simp; omega)
    rw [List.size_toArray] at hS
    refine hS.mono ?_
    rintro e w' ⟨rfl, d', n, os, hp, hs, rfl⟩
    have e1 := sorted_is hl hx hp hs
    have e2 : d' = l.toArray := by rw [← e1]
    subst e2
    rw [hln]
    exact ⟨rfl, ownsRow_sortedK rc_len hln hg hb hc hcm hcs, grownBy_sortedK _⟩
theorem own_base {w : World} {B B' : Nat} {e : TypeId} {k n : Nat} {v : Value} {xs : List Value} (h : w.ownsRow B e k v n xs) (hb : B' ≤ B) : w.ownsRow B' e k v n xs :=
  ⟨h.1, h.2.imp id fun ⟨g, cap, cur, a, b, c⟩ => ⟨g, cap, cur, a, Nat.le_trans hb b, c⟩⟩
theorem own_other {w : World} {B : Nat} {e : TypeId} {k n : Nat} {v : Value} {xs : List Value} (h : w.ownsRow (B + 1) e k v n xs) : v.ownBlock = none ∨ v.ownBlock ≠ some B := by
  by_cases e : v.ownBlock = none
  · exact .inl e
  · exact .inr (fun e2 => by have := (h.lt _ e2).1; omega)
theorem own_ne {w : World} {B b : Nat} {e : TypeId} {k n : Nat} {v : Value} {xs : List Value} (h : w.ownsRow B e k v n xs) (hb : b < B) : some b ≠ v.ownBlock := fun e2 => by have := (h.lt _ e2.symm).1; omega
theorem one_cells' {r : Rc} : ∀ v ∈ r.cells, v.oneCell' = true := one_cells r
set_option maxRecDepth 100000 in
set_option maxHeartbeats 4000000 in
theorem allT_any {w : World} {g mm : Nat} {ev : Int} {l : List Rc} (h : TableAt w g mm ev l) (hfew : l.length < 1000000) :
    Calls Try.prog 13 #[.pointer (some ⟨g, 0, none⟩)] w fun e w' => ∃ v, e = .returned v ∧ w'.ownsRow w.heap.size 34 7 v l.length (l.flatMap Rc.cells) ∧ Below w.heap.size w w' := by
  obtain ⟨c0, c1⟩ := h.cells
  obtain ⟨i0, hi, hz0, hz1, hz2⟩ := info_parts info_rec
  obtain ⟨D, hown, hrep⟩ := h.map.own
  have hml := hown.lt
  go_enter Try.func13, Try.ntmps13
  go_wp2_with (first
    | (go_at_call 30; refine (noneT_any h).mono ?_; rintro e w1 ⟨rfl, rfl⟩)
    | (at_range; refine wpList_range_own _ rfl _ 53 rfl 60 32 place_law Try.underlying53 agElem mm l.length _ rfl hown ?_; intro w0 hrg0 hg0 hs0))
  go_frame
  go_loopw [3] (fun v wr => ∃ (left : Lit → Bool) (cnt : Nat) (xs : List Rc), wr.ranges Try.prog 60 agElem mm w.heap.size l.length D left cnt ∧ xs.Perm (came l left) ∧ wr.ownsRow (w.heap.size + 1) 34 7 v xs.length (xs.flatMap Rc.cells) ∧ Below w.heap.size w wr)
    (fun _ wr => wr.rangeLeft mm w.heap.size)
  case atStart => exact ⟨_, _, [], hrg0, by rw [came_start hrep], World.ownsRow_nil _ _ _ _, (Below.refl _ _).grown hg0 (Nat.le_refl _) (fun k hk => by cases hk)⟩
  case round =>
    obtain ⟨left, cnt, xs, hrg, hperm, hrow, hbel⟩ := hrel
    have hxl : xs.length ≤ l.length := by rw [hperm.length_eq]; exact List.length_filter_le _ _
    go_wp2_with (at_next; refine wpList_next_ranges _ rfl _ rfl 60 place_law agElem (fun x : ByteArray × Int => placeV x.1 x.2) Ag.val inv_place inv_ag mm w.heap.size l.length _ _ _ rfl hrg ?_ ?_)
    · intro _ hl0
      rw [came_end hl0] at hperm
      have hS := sort_row hrow hrep.ord hperm (by omega)
      have hvk2 := hrow.lt
      clear hrg hl0 hrow
      go_wp2_with fail
      refine hS.mono ?_
      rintro e w2 ⟨rfl, hrow2, hg2⟩
      go_wp2
      go_ret
      exact ⟨_, rfl, own_base hrow2 (by omega), hbel.grown hg2 hbel.size (fun k hk => by have := (hvk2 k hk).1; omega)⟩
    · intro s m c kl d ps w1 cnt1 hkey hlx hv hat hrg1 hlt hg1 hs1 hen
      obtain ⟨r0, hr0, e1, rfl, e2⟩ := hrep.next hkey hv hat
      have e3 : s = r0.nm ∧ m = r0.st := by simpa [placeV] using e1
      obtain ⟨rfl, rfl⟩ := e3
      obtain rfl : c = r0.ag := by
        obtain ⟨a1, a2, a3, a4, a5⟩ := c
        cases hc : r0.ag
        rw [hc] at e2
        simpa [Ag.val] using e2
      clear e1 e2
      have hstep := came_step hrep hr0 hlx
      have hrow1 := hrow.kept hg1 (own_other hrow)
      have hlt1 := hrg1.lt
      have hbel1 := hbel.grown hg1 hbel.size (fun k hk => by cases hk; exact Nat.le_refl _)
      have HSZ := Lib.hid hs1
      have HST := Lib.hid hstep
      have HPM := Lib.hid hperm
      have HLT := Lib.hid hlt
      have HRG := Lib.hid hrg
      have hfit : xs.length + 1 ≤ maxLen ∧ (xs.length + 1) * 64 ≤ 140737488355328 := by unfold maxLen; omega
      have hn := cells_new ((w1.alloc (.cells #[.string r0.nm, .int .i64 r0.st] 60)).alloc (.cells #[.int .i64 r0.ag.c, .int .i64 r0.ag.hi, .int .u64 r0.ag.lo, .int .i64 r0.ag.mn, .int .i64 r0.ag.mx] 32)) #[.string r0.nm, .int .i64 r0.st, .int .i64 r0.ag.c, .int .i64 r0.ag.hi, .int .u64 r0.ag.lo, .int .i64 r0.ag.mn, .int .i64 r0.ag.mx] 34
      rw [show ((w1.alloc (.cells #[.string r0.nm, .int .i64 r0.st] 60)).alloc (.cells #[.int .i64 r0.ag.c, .int .i64 r0.ag.hi, .int .u64 r0.ag.lo, .int .i64 r0.ag.mn, .int .i64 r0.ag.mx] 32)).heap.size = w1.heap.size + 1 + 1 from by simp] at hn
      have HN := Lib.hid hn
      clear hs1 hstep hperm hlt hn hrg
      go_wp2_with (at_builtin; refine wpList_append_own _ rfl _ _ 22 rfl (w.heap.size + 1) 34 i0 _ 7 64 Try.underlying22 hi hz0 hz1 hz2 rfl (by decide) _ _ _ rfl (((hrow1.alloc _).alloc _).alloc _) ⟨w1.heap.size + 1 + 1, 0, none⟩ 1 1 r0.cells rfl rfl HN.out one_cells' hfit.1 hfit.2 ?c5 ?_; (simp; omega); intro v' w4 hown4 hgrow4 _)
      have hrg4 := (((hrg1.alloc (.cells #[.string r0.nm, .int .i64 r0.st] 60)).alloc (.cells #[.int .i64 r0.ag.c, .int .i64 r0.ag.hi, .int .u64 r0.ag.lo, .int .i64 r0.ag.mn, .int .i64 r0.ag.mx] 32)).alloc (.cells #[.string r0.nm, .int .i64 r0.st, .int .i64 r0.ag.c, .int .i64 r0.ag.hi, .int .u64 r0.ag.lo, .int .i64 r0.ag.mn, .int .i64 r0.ag.mx] 34)).kept hgrow4 (own_ne hrow (by omega)) (own_ne hrow (by omega))
      go_roundw
      case rel => exact ⟨_, cnt1, xs ++ [r0], hrg4, (List.perm_append_comm.trans (HPM.out.cons r0)).trans HST.out.symm, by simpa using hown4, (((hbel1.alloc hbel1.size _).alloc (by have := hbel1.size; simp; omega) _).alloc (by have := hbel1.size; simp; omega) _).grown hgrow4 (by have := hbel1.size; simp; omega) (fun k hk => by have := (hrow.lt k hk).1; omega)⟩
      case measure => rw [hrg4.left_eq, HRG.out.left_eq]; exact HLT.out
end Go.Proofs.Ytdlmipoeeiaapaa
