/-
  maps.DeleteFunc at a table's map; drop, Drop.
-/
import Derived.Test.YtdlmipoeeiaapaaTable
import Derived.Shelf.Abstract
namespace Go.Proofs.Ytdlmipoeeiaapaa
open Go.RowKit Go.Maps

open Classical in
/-- What is said of a place, said of how its key reads. -/
noncomputable def pdOf (p : ByteArray → Int → Bool) (kl : Lit) (_ : DataW Unit) : Bool := decide (∃ s n, s.size ≤ maxLen ∧ (Lit.int .i64 n).wf = true ∧ kl = klit s n ∧ p s n = true)
open Classical in
theorem pdOf_eq (p : ByteArray → Int → Bool) {s : ByteArray} {n : Int} (hs : s.size ≤ maxLen) (hn : (Lit.int .i64 n).wf = true) (d : DataW Unit) : pdOf p (klit s n) d = p s n := by
  unfold pdOf
  cases hp : p s n
  · apply decide_eq_false
    rintro ⟨t, m, ht, hm, e, h⟩
    obtain ⟨rfl, rfl⟩ := klit_inj hs hn ht hm e
    rw [hp] at h; cases h
  · exact decide_eq_true ⟨s, n, hs, hn, rfl, hp⟩
theorem inv_place (key : Value) (kl : Lit) (h : keyOf Try.prog 60 key = some kl) : ∃ x : ByteArray × Int, key = placeV x.1 x.2 := by
  obtain ⟨s, n, rfl, _⟩ := key_inv h
  exact ⟨(s, n), rfl⟩
theorem inv_ag (v : Value) (y : DataW Unit × List MemPlace) (h : agElem v = some y) : ∃ a : Ag, v = a.val := by
  obtain ⟨a, rfl, _⟩ := agElem_inv h
  exact ⟨a, rfl⟩
set_option maxHeartbeats 4000000 in
set_option maxRecDepth 100000 in
theorem deleteFunc_any (p : ByteArray → Int → Bool) (g : Nat) (cb : Array Value) (b n : Nat) (D : DataW Unit) (w : World)
    (eg : ∀ args w, (callFunc g args).run Try.prog w = .ok (.enter g args) w) (hown : w.ownsMap Try.prog 60 agElem b n D)
    (hdel : ∀ (W : World) (s : ByteArray) (m : Int) (a : Ag), w.grownBy W (some b) → s.size ≤ maxLen → (Lit.int .i64 m).wf = true →
      Calls Try.prog g (#[placeV s m, a.val] ++ cb) W fun e w' => e = .returned (.bool (p s m)) ∧ W.grownBy w' none) :
    Calls Try.prog 57 #[.map (some b), .func (.func g) #[] cb] w fun e w' => e = .returned (.tuple #[]) ∧ w'.ownsMap Try.prog 60 agElem b n (Lib.deleteFuncD (pdOf p) D) ∧ w.grownBy w' (some b) := by
  obtain ⟨es0, rfl, hap, hkeys⟩ := hown.entries place_law
  have HD : Aside _ := hdel
  clear hdel
  go_enter Try.func57, Try.ntmps57
  go_wp2_with (at_range; refine wpList_range_own _ rfl _ 53 rfl 60 32 place_law Try.underlying53 agElem b n _ rfl hown ?_; intro w0 hrg0 hg0 hs0)
  go_frame
  go_loopw [8] (fun _ wr => ∃ (left : Lit → Bool) (cnt : Nat), wr.ranges Try.prog 60 agElem b w.heap.size n (Fk (pdOf p) es0 left) left cnt ∧ w.grownBy wr (some b))
    (fun _ wr => wr.rangeLeft b w.heap.size)
  case atStart => exact ⟨_, _, by rw [Fk_start hkeys]; exact hrg0, hg0.but _⟩
  case round =>
    obtain ⟨left, cnt, hrg, hgw⟩ := hrel
    go_wp2_with (at_next; refine wpList_next_ranges _ rfl _ rfl 60 place_law agElem (fun x : ByteArray × Int => placeV x.1 x.2) Ag.val inv_place inv_ag b w.heap.size n _ _ _ rfl hrg ?_ ?_)
    · intro _ hl0
      go_wp2
      go_end0
      exact ⟨rfl, by rw [← Fk_end hl0]; exact hrg.owns, hgw⟩
    · intro s m c kl d ps w1 cnt1 hkey hlx hv hat hrg1 hlt hg1 hs1 hen
      obtain ⟨s', m', e1, rfl, hs, hm⟩ := key_inv hkey
      have e2 : s = s' ∧ m = m' := by simpa [placeV] using e1
      obtain ⟨rfl, rfl⟩ := e2
      clear e1
      have hgw1 := hgw.andThen hg1 (fun j hj => by cases hj; exact Or.inl (Nat.le_refl _))
      have hgw2 := (hgw1.andThen (World.grownBy_alloc w1 (.cells #[.string s, .int .i64 m] 60) none) (fun j hj => by cases hj)).andThen (World.grownBy_alloc _ (.cells #[.int .i64 c.c, .int .i64 c.hi, .int .u64 c.lo, .int .i64 c.mn, .int .i64 c.mx] 32) none) (fun j hj => by cases hj)
      have hc := HD.out _ s m c hgw2 hs hm
      have hrg2 := (hrg1.alloc (.cells #[.string s, .int .i64 m] 60)).alloc (.cells #[.int .i64 c.c, .int .i64 c.hi, .int .u64 c.lo, .int .i64 c.mn, .int .i64 c.mx] 32)
      have hbl := hrg1.owns.lt
      have hrl := hrg1.lt
      have HP := Lib.hid (pdOf_eq p hs hm d)
      cases hp : p s m <;> rw [hp] at hc HP
      · -- it stays
        go_wp2_with (go_at_fn g; refine hc.mono ?_; rintro e w2 ⟨rfl, hg3⟩)
        have hrg3 := hrg2.kept hg3 (by simp) (by simp)
        go_roundw
        case rel => exact ⟨_, cnt1, by rw [← Fk_stays hap (place_law.key hkey) hlx HP.out hat]; exact hrg3, hgw2.andThen hg3 (fun j hj => by cases hj)⟩
        case measure => rw [hrg3.left_eq, hrg.left_eq]; exact hlt
      · -- it goes
        go_wp2_with (first
          | (go_at_fn g; refine hc.mono ?_; rintro e w2 ⟨rfl, hg3⟩
             have hrg3 := hrg2.kept hg3 (by simp) (by simp)
             have c0 := hg3.cell (show ((w1.alloc (.cells #[.string s, .int .i64 m] 60)).alloc (.cells #[.int .i64 c.c, .int .i64 c.hi, .int .u64 c.lo, .int .i64 c.mn, .int .i64 c.mx] 32)).cell? ⟨w1.heap.size, 0, none⟩ = some (.string s) from by simp [go_sem]) (by simp)
             have c1 := hg3.cell (show ((w1.alloc (.cells #[.string s, .int .i64 m] 60)).alloc (.cells #[.int .i64 c.c, .int .i64 c.hi, .int .u64 c.lo, .int .i64 c.mn, .int .i64 c.mx] 32)).cell? ⟨w1.heap.size, 1, none⟩ = some (.int .i64 m) from by simp [go_sem]) (by simp)
             rw [hs1] at c0 c1)
          | (at_delete; refine wpList_delete_ranges _ rfl _ _ 53 60 rfl 32 place_law Try.underlying53 agElem b w.heap.size n _ _ _ rfl hrg3 _ _ rfl hkey ?_; intro w3 cnt3 hrg4 hle hturn; go_frame))
        rw [strike_twice] at hrg4
        go_roundw
        case rel => exact ⟨_, cnt3, by rw [← Fk_struck hap (place_law.key hkey) hlx HP.out hat]; exact hrg4, (hgw2.andThen hg3 (fun j hj => by cases hj)).andThen hturn.grown (fun j hj => by cases hj; exact Or.inr rfl)⟩
        case measure => rw [hrg4.left_eq, hrg.left_eq]; omega

set_option maxHeartbeats 1000000 in
/-- The closure of drop, about one that says p of places and writes nothing. -/
theorem drop1_any (p : ByteArray → Int → Bool) (g : Nat) (cb : Array Value) (s : ByteArray) (m : Int) (a : Ag) (q : Nat) (w : World) (eg : ∀ args w, (callFunc g args).run Try.prog w = .ok (.enter g args) w)
    (hq : w.cell? ⟨q, 0, none⟩ = some (.func (.func g) #[] cb))
    (hso : ∀ W : World, w.grownBy W none → Calls Try.prog g (#[placeV s m] ++ cb) W fun e w' => e = .returned (.bool (p s m)) ∧ W.grownBy w' none) :
    Calls Try.prog 58 #[placeV s m, a.val, .pointer (some ⟨q, 0, none⟩)] w fun e w' => e = .returned (.bool (p s m)) ∧ w.grownBy w' none := by
  have hlt := World.block_lt_of_cell? w _ hq
  simp only at hlt
  have hg := ((World.grownBy_alloc w (.cells #[.string s, .int .i64 m] 60) none)).andThen (World.grownBy_alloc _ (.cells #[.int .i64 a.c, .int .i64 a.hi, .int .u64 a.lo, .int .i64 a.mn, .int .i64 a.mx] 32) none) (fun j hj => by cases hj)
  have hc := hso _ hg
  clear hso
  go_enter Try.func58, Try.ntmps58
  go_wp2_with (go_at_fn g; refine hc.mono ?_; rintro e w2 ⟨rfl, hg3⟩)
  go_ret
  exact ⟨rfl, hg.andThen hg3 (fun j hj => by cases hj)⟩
set_option maxHeartbeats 1000000 in
theorem dropT_any (p : ByteArray → Int → Bool) (f : Nat) (cb : Array Value) {g mm : Nat} {ev : Int} {l : List Rc} (w : World) (h : TableAt w g mm ev l) (hfew : l.length < 1000000) (ef : ∀ args w, (callFunc f args).run Try.prog w = .ok (.enter f args) w)
    (hso : ∀ (W : World) (s : ByteArray) (m : Int), w.grownBy W (some mm) → s.size ≤ maxLen → (Lit.int .i64 m).wf = true → Calls Try.prog f (#[placeV s m] ++ cb) W fun e w' => e = .returned (.bool (p s m)) ∧ W.grownBy w' none) :
    Calls Try.prog 35 #[.pointer (some ⟨g, 0, none⟩), .func (.func f) #[] cb] w fun e w' => e = .returned (.int .i64 (l.length - (l.filter fun r => !p r.nm r.st).length)) ∧ TableAt w' g mm ev (l.filter fun r => !p r.nm r.st) ∧ w.grownBy w' (some mm) := by
  have hga : w.grownBy (w.alloc (.cells #[.func (.func f) #[] cb] 65)) none := World.grownBy_alloc _ _ _
  have h1 := h.grown hga (by simp) (by simp)
  obtain ⟨c0, c1⟩ := h1.cells
  obtain ⟨D, hown, hrep⟩ := h1.map.own
  have hml := hown.lt
  have hmne := h.map.lt
  have hlen : ∀ ty, (Builtin.len_ #[53] ty #[.map (some mm)]).run Try.prog (w.alloc (.cells #[.func (.func f) #[] cb] 65)) = .ok (.int .i64 l.length) (w.alloc (.cells #[.func (.func f) #[] cb] 65)) := fun ty => by
    rw [hown.len Try.underlying53 ty, hrep.size]
  have hle := List.length_filter_le (fun r : Rc => !p r.nm r.st) l
  have hD := deleteFunc_any p 58 #[.pointer (some ⟨w.heap.size, 0, none⟩)] mm l.length D _ (enters_of Try.func58 (by kernel_rfl) rfl) hown (fun W s m a hg hs hm =>
    drop1_any p f cb s m a w.heap.size W ef (hg.cell (show (w.alloc (.cells #[.func (.func f) #[] cb] 65)).cell? ⟨w.heap.size, 0, none⟩ = some (.func (.func f) #[] cb) from by simp [go_sem]) (by simp; omega))
      (fun W' hg' => hso W' s m ((hga.but (some mm)).andThen (hg.andThen hg' (fun j hj => by cases hj)) (fun j hj => by cases hj; exact Or.inr rfl)) hs hm))
  have hR := hrep.drop (p := fun r => p r.nm r.st) (fun r hr => pdOf_eq p (hrep.ok r hr).nm (hrep.ok r hr).st _)
  clear hso
  go_enter Try.func35, Try.ntmps35
  go_wp2_with (first
    | (go_at_call 30; refine (noneT_any h1).mono ?_; rintro e w1 ⟨rfl, rfl⟩)
    | (go_at_call 57; refine hD.mono ?_; rintro e w2 ⟨rfl, hown2, hg2⟩
       have h2 := h1.turned hg2 (MapAt.mk' hown2 hR)
       obtain ⟨d0, d1⟩ := h2.cells
       have hlen2 : ∀ ty, (Builtin.len_ #[53] ty #[.map (some mm)]).run Try.prog w2 = .ok (.int .i64 (l.filter fun r => !p r.nm r.st).length) w2 := fun ty => by
         rw [hown2.len Try.underlying53 ty, hR.size]))
  go_ret
  exact ⟨rfl, h2, (hga.but (some mm)).andThen hg2 (fun j hj => by cases hj; exact Or.inr rfl)⟩
set_option maxHeartbeats 1000000 in
theorem dropBelow_any (b : Int) {g mm : Nat} {ev : Int} {l : List Rc} (w : World) (h : TableAt w g mm ev l) (hfew : l.length < 1000000) :
    Calls Try.prog 14 #[.pointer (some ⟨g, 0, none⟩), .int .i64 b] w fun e w' => e = .returned (.int .i64 (l.length - (l.filter fun r => !decide (r.st < b)).length)) ∧ TableAt w' g mm ev (l.filter fun r => !decide (r.st < b)) ∧ w.grownBy w' (some mm) := by
  have hga : w.grownBy (w.alloc (.cells #[.int .i64 b] 3)) none := World.grownBy_alloc _ _ _
  have h1 := h.grown hga (by simp) (by simp)
  have hml := h.map.lt
  have hD := dropT_any (fun _ n => decide (n < b)) 36 #[.pointer (some ⟨w.heap.size, 0, none⟩)] _ h1 hfew (enters_of Try.func36 (by kernel_rfl) rfl) (fun W s m hg hs hm => by
    have hc := hg.cell (show (w.alloc (.cells #[.int .i64 b] 3)).cell? ⟨w.heap.size, 0, none⟩ = some (.int .i64 b) from by simp [go_sem]) (by simp; omega)
    have hlt := World.block_lt_of_cell? W _ hc
    simp only at hlt
    go_enter Try.func36, Try.ntmps36
    go_wp2
    go_ret
    exact ⟨rfl, World.grownBy_alloc _ _ _⟩)
  go_enter Try.func14, Try.ntmps14
  go_wp2_with (go_at_call 35; refine hD.mono ?_; rintro e w2 ⟨rfl, h2, hg2⟩)
  go_ret
  exact ⟨rfl, h2, (hga.but (some mm)).andThen hg2 (fun j hj => by cases hj; exact Or.inr rfl)⟩
end Go.Proofs.Ytdlmipoeeiaapaa
