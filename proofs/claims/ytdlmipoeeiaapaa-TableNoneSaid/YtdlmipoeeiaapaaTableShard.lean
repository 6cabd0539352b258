/-
  Shard, Clear.
-/
import Derived.Test.YtdlmipoeeiaapaaTableRange
namespace Go.Proofs.Ytdlmipoeeiaapaa
open Go.RowKit Go.Maps

/-- Is a name of another shard? -/
def offP (k n : Int) (s : ByteArray) : Bool := shardI s.toList n != k
set_option maxRecDepth 100000 in
set_option maxHeartbeats 1000000 in
theorem shard1_any (k n : Int) (b0 : Nat) (r : Rc) (w : World) (hr : r.nm.size ≤ maxLen) (h0 : w.cell? ⟨b0, 0, none⟩ = some (.int .i64 k)) (h1 : w.cell? ⟨b0 + 1, 0, none⟩ = some (.int .i64 n)) :
    Calls Try.prog 42 #[r.val, .pointer (some ⟨b0 + 1, 0, none⟩), .pointer (some ⟨b0, 0, none⟩)] w fun e w' => e = .returned (.bool (offP k n r.nm)) ∧ w.grownBy w' none := by
  have l0 := World.block_lt_of_cell? w _ h0
  have l1 := World.block_lt_of_cell? w _ h1
  simp only at l0 l1
  go_enter Try.func42, Try.ntmps42
  go_wp2_with fail
  go_quiet ((go_at_call 43; exact Calls.quiet_of_same ((shard_any r.nm n _ hr).mono fun _ _ ⟨h1, h2⟩ => ⟨h1, h2.symm⟩)))
  go_wp2
  go_ret
  exact ⟨rfl, (World.grownBy_alloc w _ none).andThen (grown_of_below (below_drewN (Below.refl _ _) _) none) (fun j hj => by cases hj)⟩
set_option maxRecDepth 100000 in
set_option maxHeartbeats 2000000 in
theorem shardT_any (k n : Int) {w : World} {g mm : Nat} {ev : Int} {l : List Rc} (h : TableAt w g mm ev l) (hfew : l.length < 1000000) :
    Calls Try.prog 22 #[.pointer (some ⟨g, 0, none⟩), .int .i64 k, .int .i64 n] w fun e w' => ∃ v, e = .returned v ∧ w'.ownsRow w.heap.size 34 7 v (l.filter fun r => !offP k n r.nm).length ((l.filter fun r => !offP k n r.nm).flatMap Rc.cells) ∧ Below w.heap.size w w' := by
  have hb3 : Below w.heap.size w ((w.alloc (.cells #[.int .i64 k] 3)).alloc (.cells #[.int .i64 n] 3)) := ((Below.refl _ _).alloc (Nat.le_refl _) _).alloc (by simp) _
  have h3 := h.below hb3
  have c0 : ((w.alloc (.cells #[.int .i64 k] 3)).alloc (.cells #[.int .i64 n] 3)).cell? ⟨w.heap.size, 0, none⟩ = some (.int .i64 k) := by simp [go_sem, World.cell?_alloc_past]
  have c1 : ((w.alloc (.cells #[.int .i64 k] 3)).alloc (.cells #[.int .i64 n] 3)).cell? ⟨w.heap.size + 1, 0, none⟩ = some (.int .i64 n) := by simp [go_sem]
  have hw3 : ((w.alloc (.cells #[.int .i64 k] 3)).alloc (.cells #[.int .i64 n] 3)).heap.size = w.heap.size + 2 := by simp
  have HOK := Lib.hid h.ok
  have HW3 := Lib.hid hw3
  have C0 := Lib.hid c0
  have C1 := Lib.hid c1
  clear hw3 c0 c1
  go_enter Try.func22, Try.ntmps22
  go_wp2_with fail
  refine (allT_any h3 hfew).mono ?_
  rintro e w4 ⟨v, rfl, hrow, hb4⟩
  rw [HW3.out] at hrow hb4
  have hsz := hb4.size
  rw [HW3.out] at hsz
  have hcb : CbGives (fun r => offP k n r.nm) 42 #[.pointer (some ⟨w.heap.size + 1, 0, none⟩), .pointer (some ⟨w.heap.size, 0, none⟩)] l v.ownBlock w4 := fun W r hg hr => by
    have e0 : ∀ o, o < 2 → some (w.heap.size + o) ≠ v.ownBlock := fun o ho e => by have := (hrow.lt _ e.symm).1; omega
    exact shard1_any k n w.heap.size r W (HOK.out r hr).nm (hg.cell ((hb4.cell (p := ⟨w.heap.size, 0, none⟩) (by simp)).trans C0.out) (e0 0 (by omega))) (hg.cell ((hb4.cell (p := ⟨w.heap.size + 1, 0, none⟩) (by simp)).trans C1.out) (e0 1 (by omega)))
  have hD := deleteF_any (fun r => offP k n r.nm) 42 _ _ v l w4 hrow HOK.out hfew (enters_of Try.func42 (by kernel_rfl) rfl) hcb
  have hv := hrow.lt
  have HV := Lib.hid hv
  clear hcb hrow hv
  go_wp2_with fail
  refine hD.mono ?_
  rintro e w5 ⟨v', rfl, hrow5, hg5⟩
  go_wp2
  go_ret
  exact ⟨_, rfl, own_base hrow5 (by omega), (hb3.trans (hb4.mono (by omega))).grown hg5 (by omega) (fun k hk => by have := (HV.out k hk).1; omega)⟩
set_option maxRecDepth 100000 in
set_option maxHeartbeats 1000000 in
theorem clear1_any (k n : Int) (b0 : Nat) (s : ByteArray) (m : Int) (w : World) (hr : s.size ≤ maxLen) (h0 : w.cell? ⟨b0, 0, none⟩ = some (.int .i64 k)) (h1 : w.cell? ⟨b0 + 1, 0, none⟩ = some (.int .i64 n)) :
    Calls Try.prog 45 #[placeV s m, .pointer (some ⟨b0 + 1, 0, none⟩), .pointer (some ⟨b0, 0, none⟩)] w fun e w' => e = .returned (.bool (shardI s.toList n == k)) ∧ w.grownBy w' none := by
  have l0 := World.block_lt_of_cell? w _ h0
  have l1 := World.block_lt_of_cell? w _ h1
  simp only at l0 l1
  go_enter Try.func45, Try.ntmps45
  go_wp2_with fail
  go_quiet ((go_at_call 43; exact Calls.quiet_of_same ((shard_any s n _ hr).mono fun _ _ ⟨h1, h2⟩ => ⟨h1, h2.symm⟩)))
  go_wp2
  go_ret
  exact ⟨rfl, (World.grownBy_alloc w _ none).andThen (grown_of_below (below_drewN (Below.refl _ _) _) none) (fun j hj => by cases hj)⟩
set_option maxRecDepth 100000 in
set_option maxHeartbeats 2000000 in
theorem clearT_any (k n : Int) {w : World} {g mm : Nat} {ev : Int} {l : List Rc} (h : TableAt w g mm ev l) (hfew : l.length < 1000000) :
    Calls Try.prog 25 #[.pointer (some ⟨g, 0, none⟩), .int .i64 k, .int .i64 n] w fun e w' => e = .returned (.int .i64 (l.length - (l.filter fun r => !(shardI r.nm.toList n == k)).length)) ∧ TableAt w' g mm ev (l.filter fun r => !(shardI r.nm.toList n == k)) ∧ w.grownBy w' (some mm) := by
  have hga : w.grownBy ((w.alloc (.cells #[.int .i64 k] 3)).alloc (.cells #[.int .i64 n] 3)) none := (World.grownBy_alloc w _ none).andThen (World.grownBy_alloc _ _ none) (fun j hj => by cases hj)
  have h1 := h.grown hga (by simp) (by simp)
  have hml := h.map.lt
  have hD := dropT_any (fun s _ => shardI s.toList n == k) 45 #[.pointer (some ⟨w.heap.size + 1, 0, none⟩), .pointer (some ⟨w.heap.size, 0, none⟩)] _ h1 hfew (enters_of Try.func45 (by kernel_rfl) rfl) (fun W s m hg hs hm =>
    clear1_any k n w.heap.size s m W hs (hg.cell (show ((w.alloc (.cells #[.int .i64 k] 3)).alloc (.cells #[.int .i64 n] 3)).cell? ⟨w.heap.size, 0, none⟩ = some (.int .i64 k) from by simp [go_sem, World.cell?_alloc_past]) (by simp; omega))
      (hg.cell (show ((w.alloc (.cells #[.int .i64 k] 3)).alloc (.cells #[.int .i64 n] 3)).cell? ⟨w.heap.size + 1, 0, none⟩ = some (.int .i64 n) from by simp [go_sem]) (by simp; omega)))
  go_enter Try.func25, Try.ntmps25
  go_wp2_with (go_at_call 35; refine hD.mono ?_; rintro e w2 ⟨rfl, h2, hg2⟩)
  go_ret
  exact ⟨rfl, h2, (hga.but (some mm)).andThen hg2 (fun j hj => by cases hj; exact Or.inr rfl)⟩
end Go.Proofs.Ytdlmipoeeiaapaa
