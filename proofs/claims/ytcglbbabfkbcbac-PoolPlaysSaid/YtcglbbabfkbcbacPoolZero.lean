/-
  pool: the zero pool: Has, Free, Size, is, Take, Give, Mark.
-/
import Derived.Test.YtcglbbabfkbcbacPoolTake2
import Derived.Test.YtcglbbabfkbcbacPoolGive
import Derived.Test.YtcglbbabfkbcbacPoolMark
namespace Go.Proofs.Ytcglbbabfkbcbac
open Go.RowKit Go.Maps

/-- The zero pool at block g. -/
structure ZeroP (w : World) (g : Nat) : Prop where
  blk : ∃ (tl : List Value) (T : TypeId), w.heap[g]? = some (.cells ⟨.int .i64 0 :: .int .i64 0 :: .map none :: tl⟩ T (0, 0))
theorem ZeroP.lt {w : World} {g : Nat} (h : ZeroP w g) : g < w.heap.size := by obtain ⟨_, _, e⟩ := h.blk; exact lt_of_block e
theorem ZeroP.cells {w : World} {g : Nat} (h : ZeroP w g) : w.cell? ⟨g, 0, none⟩ = some (.int .i64 0) ∧ w.cell? ⟨g, 1, none⟩ = some (.int .i64 0) ∧ w.cell? ⟨g, 2, none⟩ = some (.map none) := by
  obtain ⟨_, _, e⟩ := h.blk
  exact ⟨cell_of_row w g 0 _ _ _ e, cell_of_row w g 1 _ _ _ e, cell_of_row w g 2 _ _ _ e⟩
theorem ZeroP.below {w w' : World} {g : Nat} (h : ZeroP w g) (hb : Below w.heap.size w w') : ZeroP w' g := by
  obtain ⟨tl, T, e⟩ := h.blk
  exact ⟨tl, T, (hb.block g h.lt).trans e⟩
theorem ZeroP.grown {w w' : World} {g : Nat} {row : Option Nat} (h : ZeroP w g) (hg : w.grownBy w' row) (hne : some g ≠ row) : ZeroP w' g := by
  obtain ⟨tl, T, e⟩ := h.blk
  exact ⟨tl, T, (hg.block g h.lt hne).trans e⟩
theorem look_zero {z : Int} (hz : (Lit.int .i64 z).wf = true) (W : World) : (Instr.lookup 28 (.map none) (.int .i64 z) true).run Try.prog W = .ok (.tuple #[.agg #[], .bool false]) W :=
  Maps.look_nil true int_law Try.underlying28 (zero_unit W) (keyOf_int_mk Try.underlying3 hz)
set_option maxHeartbeats 1000000 in
theorem has_zero (g : Nat) (z : Int) (w : World) (h : ZeroP w g) (hz : (Lit.int .i64 z).wf = true) :
    Calls Try.prog 17 #[.pointer (some ⟨g, 0, none⟩), .int .i64 z] w fun e w' => e = .returned (.bool false) ∧ Below w.heap.size w w' := by
  obtain ⟨c0, c1, c2⟩ := h.cells
  have hl := look_zero hz
  go_enter Try.func17, Try.ntmps17
  go_wp2
  go_ret
  exact ⟨rfl, (Below.refl _ _).alloc (Nat.le_refl _) _⟩
set_option maxHeartbeats 1000000 in
theorem free_zero (g : Nat) (w : World) (h : ZeroP w g) :
    Calls Try.prog 16 #[.pointer (some ⟨g, 0, none⟩)] w fun e w' => e = .returned (.int .i64 0) ∧ Below w.heap.size w w' := by
  obtain ⟨c0, c1, c2⟩ := h.cells
  have hlen : ∀ q ty, (Builtin.len_ #[28] ty #[.map none]).run Try.prog (w.drewN q) = .ok (.int .i64 0) (w.drewN q) := fun q ty => Maps.len_nil Try.underlying28 ty
  go_enter Try.func16, Try.ntmps16
  go_wp2
  go_quiet (fail)
  go_wp2
  go_ret
  exact ⟨rfl, below_drewN (Below.refl _ _) _⟩
set_option maxHeartbeats 1000000 in
theorem size_zero (g : Nat) (w : World) (h : ZeroP w g) :
    Calls Try.prog 7 #[.pointer (some ⟨g, 0, none⟩)] w fun e w' => e = .returned (.int .i64 0) ∧ w = w' := by
  obtain ⟨c0, c1, c2⟩ := h.cells
  go_enter Try.func7, Try.ntmps7
  go_wp2
  go_ret
  exact ⟨rfl, rfl⟩
set_option maxHeartbeats 1000000 in
theorem is_zero (g : Nat) (z : Int) (w : World) (h : ZeroP w g) (hz : -9223372036854775808 ≤ z ∧ z ≤ 9223372036854775807) :
    Calls Try.prog 22 #[.pointer (some ⟨g, 0, none⟩), .int .i64 z] w fun e w' => e = .returned (.bool false) ∧ Below w.heap.size w w' := by
  obtain ⟨c0, c1, c2⟩ := h.cells
  obtain ⟨hz1, hz2⟩ := hz
  by_cases a : 0 ≤ z
  · have hw : IntKind.i64.wrap (z - 0) = z - 0 := IntWalk.i64_in (z - 0) (by omega)
    have hd : decide (z < 0) = false := decide_eq_false (by omega)
    go_enter Try.func22, Try.ntmps22
    go_wp2
    go_quiet (fail)
    go_wp2
    go_ret
    exact ⟨rfl, below_drewN (Below.refl _ _) _⟩
  · have hd : decide (0 ≤ z) = false := by simp; omega
    go_enter Try.func22, Try.ntmps22
    go_wp2
    go_quiet (fail)
    go_wp2
    go_ret
    exact ⟨rfl, below_drewN (Below.refl _ _) _⟩
set_option maxHeartbeats 1000000 in
theorem take_zero (g : Nat) (k : Int) (w : World) (h : ZeroP w g) :
    Calls Try.prog 9 #[.pointer (some ⟨g, 0, none⟩), .int .i64 k] w fun e w' => e = .returned (.tuple #[.slice none 0 0, .int .i64 (takeOut 0 0 [] k).2]) ∧ (takeOut 0 0 [] k).1 = [] ∧ Below w.heap.size w w' := by
  by_cases h1 : k < 0
  · have HO := Lib.hid (show takeOut 0 0 [] k = ([], 1) from if_pos h1)
    go_enter Try.func9, Try.ntmps9
    go_wp2_with fail
    go_ret2
    rw [HO.out]
    exact ⟨rfl, rfl, Below.refl _ _⟩
  · by_cases h2 : 0 < k
    · have HO := Lib.hid (show takeOut 0 0 [] k = ([], 20) from by unfold takeOut; rw [if_neg h1, if_pos (by simpa using h2)])
      go_enter Try.func9, Try.ntmps9
      go_wp2_with fail
      refine (free_zero g w h).mono ?_
      rintro e w1 ⟨rfl, hb⟩
      go_wp2_with fail
      go_ret2
      rw [HO.out]
      exact ⟨rfl, rfl, hb⟩
    · have h0 : k = 0 := by omega
      subst h0
      have HO := Lib.hid (show takeOut 0 0 [] 0 = ([], 0) from rfl)
      go_enter Try.func9, Try.ntmps9
      go_wp2_with fail
      refine (free_zero g w h).mono ?_
      rintro e w1 ⟨rfl, hb⟩
      go_wp2_with fail
      go_loopw [6, 7] (fun v i wr => v = .slice none 0 0 ∧ i = .int .i64 0 ∧ Below w.heap.size w wr) (fun _ _ _ => 0)
      case atStart => exact ⟨rfl, rfl, hb⟩
      case round =>
        obtain ⟨rfl, rfl, hbel⟩ := hrel
        go_wp2_with fail
        go_ret2
        rw [HO.out]
        exact ⟨rfl, rfl, hbel⟩
set_option maxRecDepth 100000 in
set_option maxHeartbeats 1000000 in
theorem give_zero (g : Nat) (A : Option Addr) (k c : Nat) (zs : List Int) (w : World) (h : ZeroP w g) (hz : Ints w .i64 A k zs) :
    Calls Try.prog 11 #[.pointer (some ⟨g, 0, none⟩), .slice A k c] w fun e w' => e = .returned (.int .i64 0) ∧ Below w.heap.size w w' := by
  have hn := hz.n_le
  have HL := Lib.hid hz.len
  unfold maxLen at hn
  go_enter Try.func11, Try.ntmps11
  go_wp2
  go_loopw [5, 10] (fun q i wr => ∃ j : Nat, j ≤ k ∧ i = .int .i64 j ∧ q = .int .i64 0 ∧ Below w.heap.size w wr) (fun _ i _ => k - (intOf i).toNat)
  case atStart => exact ⟨0, Nat.zero_le _, rfl, rfl, Below.refl _ _⟩
  case round =>
    obtain ⟨j, hj, rfl, rfl, hbel⟩ := hrel
    by_cases hlt : j < k
    · have K : j < zs.length := by rw [HL.out]; exact hlt
      obtain ⟨b, off, rfl, hb, hc⟩ := (hz.below hbel).get K
      have hwf := hz.wf _ (List.getElem_mem K)
      generalize zs[j]'K = z at *
      go_wp2_with fail
      refine (has_zero g z wr (h.below hbel) hwf).mono ?_
      rintro e w2 ⟨rfl, hb2⟩
      go_wp2_with fail
      go_roundw
      case rel => exact ⟨j + 1, by omega, by go_num, rfl, hbel.trans (hb2.mono hbel.size)⟩
      case measure => simp [intOf]; omega
    · go_wp2
      go_ret
      exact ⟨rfl, hbel⟩
theorem give_nothing (zs : List Int) : giveAll [] zs = ([], 0) := by
  obtain ⟨ys, rfl⟩ : ∃ ys : List Int, zs = ys.reverse := ⟨zs.reverse, by simp⟩
  induction ys with
  | nil => rfl
  | cons y r ih => rw [List.reverse_cons, giveAll_snoc, ih]; rfl
set_option maxRecDepth 100000 in
set_option maxHeartbeats 1000000 in
theorem mark_zero (g : Nat) (A : Option Addr) (k c : Nat) (zs : List Int) (w : World) (h : ZeroP w g) (hz : Ints w .i64 A k zs) :
    Calls Try.prog 12 #[.pointer (some ⟨g, 0, none⟩), .slice A k c] w fun e w' => e = .returned (.int .i64 (markErr 0 0 [] zs)) ∧ markTo 0 0 [] zs = [] ∧ Below w.heap.size w w' := by
  have hn := hz.n_le
  have HL := Lib.hid hz.len
  unfold maxLen at hn
  have hmm := @run_makeMap Try.prog
  by_cases hk : k = 0
  · have HZ := Lib.hid (show zs = [] from List.length_eq_zero_iff.1 (by rw [HL.out]; exact hk))
    subst hk
    go_enter Try.func12, Try.ntmps12
    go_wp2
    go_loopw [14] (fun i wr => i = .int .i64 0 ∧ Below w.heap.size w wr) (fun _ _ => 0)
    case atStart => exact ⟨rfl, Below.refl _ _⟩
    case round =>
      obtain ⟨rfl, hbel⟩ := hrel
      go_wp2_with fail
      have hbel1 := hbel.alloc hbel.size (.map #[] 0)
      go_loopw [26] (fun i wr => i = .int .i64 0 ∧ Below w.heap.size w wr) (fun _ _ => 0)
      case atStart => exact ⟨rfl, hbel1⟩
      case round =>
        clear hbel hbel1
        obtain ⟨rfl, hbel⟩ := hrel
        go_wp2_with fail
        go_ret
        rw [HZ.out]
        exact ⟨rfl, rfl, hbel⟩
  · have K : 0 < zs.length := by rw [HL.out]; omega
    have hmem : zs[0] ∈ zs := List.getElem_mem K
    have HM := Lib.hid (mark_range (f := 0) (n := 0) (us := []) hmem (by unfold inR; exact decide_eq_false (by omega)))
    go_enter Try.func12, Try.ntmps12
    go_wp2
    go_loopw [14] (fun i wr => i = .int .i64 0 ∧ Below w.heap.size w wr) (fun _ _ => 0)
    case atStart => exact ⟨rfl, Below.refl _ _⟩
    case round =>
      obtain ⟨rfl, hbel⟩ := hrel
      obtain ⟨b, off, rfl, hb, hc⟩ := (hz.below hbel).get K
      have hwf := hz.wf _ (List.getElem_mem K)
      have hlt : 0 < k := by omega
      have hltI : (0 : Int) < (k : Int) := by omega
      rw [Nat.add_zero] at hc
      generalize zs[0]'K = z at *
      obtain ⟨hbd1, hbd2⟩ := bounds_i64 hwf
      go_wp2_with fail
      refine (is_zero g z wr (h.below hbel) ⟨hbd1, hbd2⟩).mono ?_
      rintro e w2 ⟨rfl, hb2⟩
      go_wp2_with fail
      go_ret
      exact ⟨ret_int HM.out.1.symm, HM.out.2, hbel.trans (hb2.mono hbel.size)⟩
end Go.Proofs.Ytcglbbabfkbcbac
