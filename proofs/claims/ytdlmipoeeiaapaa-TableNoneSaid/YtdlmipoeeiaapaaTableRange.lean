/-
  Range, Shard, Clear.
-/
import Derived.Test.YtdlmipoeeiaapaaRecDel
import Derived.Test.YtdlmipoeeiaapaaTableOk
import Derived.Test.YtdlmipoeeiaapaaTableDrop
import Derived.Test.YtdlmipoeeiaapaaName
namespace Go.Proofs.Ytdlmipoeeiaapaa
open Go.RowKit Go.Maps

/-- What Range lets go. -/
def rngP (s : ByteArray) (a b : Int) (r : Rc) : Bool := (!r.nm.toList == s.toList) || decide (r.st < a) || decide (b ≤ r.st)
set_option maxHeartbeats 1000000 in
theorem range1_any (s : ByteArray) (a b : Int) (b0 : Nat) (r : Rc) (w : World) (h0 : w.cell? ⟨b0, 0, none⟩ = some (.string s)) (h1 : w.cell? ⟨b0 + 1, 0, none⟩ = some (.int .i64 a)) (h2 : w.cell? ⟨b0 + 2, 0, none⟩ = some (.int .i64 b)) :
    Calls Try.prog 41 #[r.val, .pointer (some ⟨b0, 0, none⟩), .pointer (some ⟨b0 + 1, 0, none⟩), .pointer (some ⟨b0 + 2, 0, none⟩)] w fun e w' => e = .returned (.bool (rngP s a b r)) ∧ w.grownBy w' none := by
  have l0 := World.block_lt_of_cell? w _ h0
  have l1 := World.block_lt_of_cell? w _ h1
  have l2 := World.block_lt_of_cell? w _ h2
  simp only at l0 l1 l2
  go_enter Try.func41, Try.ntmps41
  go_wp2
  all_goals
    go_ret
    exact ⟨ret_bool (by simp_all [rngP]), World.grownBy_alloc _ _ _⟩
set_option maxRecDepth 100000 in
set_option maxHeartbeats 2000000 in
theorem rangeT_any (s : ByteArray) (a b : Int) {w : World} {g mm : Nat} {ev : Int} {l : List Rc} (h : TableAt w g mm ev l) (hfew : l.length < 1000000) :
    Calls Try.prog 19 #[.pointer (some ⟨g, 0, none⟩), .string s, .int .i64 a, .int .i64 b] w fun e w' => ∃ v, e = .returned v ∧ w'.ownsRow w.heap.size 34 7 v (l.filter fun r => !rngP s a b r).length ((l.filter fun r => !rngP s a b r).flatMap Rc.cells) ∧ Below w.heap.size w w' := by
  have hb3 : Below w.heap.size w (((w.alloc (.cells #[.string s] 9)).alloc (.cells #[.int .i64 a] 3)).alloc (.cells #[.int .i64 b] 3)) := (((Below.refl _ _).alloc (Nat.le_refl _) _).alloc (by simp) _).alloc (by simp; omega) _
  have h3 := h.below hb3
  have c0 : (((w.alloc (.cells #[.string s] 9)).alloc (.cells #[.int .i64 a] 3)).alloc (.cells #[.int .i64 b] 3)).cell? ⟨w.heap.size, 0, none⟩ = some (.string s) := by simp [go_sem, World.cell?_alloc_past]
  have c1 : (((w.alloc (.cells #[.string s] 9)).alloc (.cells #[.int .i64 a] 3)).alloc (.cells #[.int .i64 b] 3)).cell? ⟨w.heap.size + 1, 0, none⟩ = some (.int .i64 a) := by simp [go_sem, World.cell?_alloc_past]
  have c2 : (((w.alloc (.cells #[.string s] 9)).alloc (.cells #[.int .i64 a] 3)).alloc (.cells #[.int .i64 b] 3)).cell? ⟨w.heap.size + 2, 0, none⟩ = some (.int .i64 b) := by simp [go_sem]
  have hw3 : (((w.alloc (.cells #[.string s] 9)).alloc (.cells #[.int .i64 a] 3)).alloc (.cells #[.int .i64 b] 3)).heap.size = w.heap.size + 3 := by simp
  have HOK := Lib.hid h.ok
  have HW3 := Lib.hid hw3
  have C0 := Lib.hid c0
  have C1 := Lib.hid c1
  have C2 := Lib.hid c2
  clear hw3 c0 c1 c2
  go_enter Try.func19, Try.ntmps19
  go_wp2_with fail
  refine (allT_any h3 hfew).mono ?_
  rintro e w4 ⟨v, rfl, hrow, hb4⟩
  rw [HW3.out] at hrow hb4
  have hsz := hb4.size
  rw [HW3.out] at hsz
  have hcb : CbGives (rngP s a b) 41 #[.pointer (some ⟨w.heap.size, 0, none⟩), .pointer (some ⟨w.heap.size + 1, 0, none⟩), .pointer (some ⟨w.heap.size + 2, 0, none⟩)] l v.ownBlock w4 := fun W r hg _ => by
    have e0 : ∀ o, o < 3 → some (w.heap.size + o) ≠ v.ownBlock := fun o ho e => by have := (hrow.lt _ e.symm).1; omega
    exact range1_any s a b w.heap.size r W (hg.cell ((hb4.cell (p := ⟨w.heap.size, 0, none⟩) (by simp)).trans C0.out) (e0 0 (by omega))) (hg.cell ((hb4.cell (p := ⟨w.heap.size + 1, 0, none⟩) (by simp)).trans C1.out) (e0 1 (by omega))) (hg.cell ((hb4.cell (p := ⟨w.heap.size + 2, 0, none⟩) (by simp)).trans C2.out) (e0 2 (by omega)))
  have hD := deleteF_any (rngP s a b) 41 _ _ v l w4 hrow HOK.out hfew (enters_of Try.func41 (by kernel_rfl) rfl) hcb
  have hv := hrow.lt
  have HV := Lib.hid hv
  clear hcb hrow hv
  go_wp2_with fail
  refine hD.mono ?_
  rintro e w5 ⟨v', rfl, hrow5, hg5⟩
  go_wp2
  go_ret
  exact ⟨_, rfl, own_base hrow5 (by omega), (hb3.trans (hb4.mono (by omega))).grown hg5 (by omega) (fun k hk => by have := (HV.out k hk).1; omega)⟩
end Go.Proofs.Ytdlmipoeeiaapaa
