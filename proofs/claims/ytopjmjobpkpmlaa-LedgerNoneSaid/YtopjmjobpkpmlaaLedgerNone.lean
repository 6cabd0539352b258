/-
  LedgerNone: its walk.
-/
import Derived.Test.YtopjmjobpkpmlaaAlive19
namespace Go.Proofs.Ytopjmjobpkpmlaa
open Go.RowKit Go.Maps

/-- A zero ledger in memory. -/
structure ZeroAt (w : World) (g : Nat) : Prop where
  lt : g < w.heap.size
  c3 : w.cell? ⟨g, 3, none⟩ = some (.map none)
theorem ZeroAt.below {w w' : World} {g : Nat} (h : ZeroAt w g) (hb : Below w.heap.size w w') : ZeroAt w' g := ⟨Nat.lt_of_lt_of_le h.lt hb.size, (hb.cell (p := ⟨g, 3, none⟩) h.lt).trans h.c3⟩
theorem zero_none (g : Nat) (w : World) (h : ZeroAt w g) :
    Calls Try.prog 24 #[.pointer (some ⟨g, 0, none⟩)] w fun e w' => e = .returned (.bool true) ∧ w = w' := by
  have c3 := h.c3
  have hq := fun W => run_eql_map_nil (P := Try.prog) W _ _ _ none Try.underlying40
  go_enter Try.func24, Try.ntmps24
  go_wp2
  go_ret
  exact ⟨rfl, rfl⟩
theorem zero_find (g : Nat) (s : ByteArray) (w : World) (h : ZeroAt w g) :
    Calls Try.prog 26 #[.pointer (some ⟨g, 0, none⟩), .string s] w fun e w' => e = .returned (.pointer none) ∧ w = w' := by
  go_enter Try.func26, Try.ntmps26
  go_wp2_with (go_at_call 24; refine (zero_none _ _ h).mono ?_; rintro e w1 ⟨rfl, rfl⟩)
  go_ret
  exact ⟨rfl, rfl⟩
def zdraw (k : Int) : Int := if k < 0 then 1 else 8
theorem zero_draw (g : Nat) (s : ByteArray) (k : Int) (w : World) (h : ZeroAt w g) :
    Calls Try.prog 10 #[.pointer (some ⟨g, 0, none⟩), .string s, .int .i64 k] w fun e w' => e = .returned (.tuple #[.slice none 0 0, .int .i64 (zdraw k)]) ∧ w = w' := by
  by_cases hk : k < 0
  · have HF := Lib.hid (show zdraw k = 1 from if_pos hk)
    go_enter Try.func10, Try.ntmps10
    go_wp2_with fail
    go_ret2
    rw [HF.out]
    exact ⟨rfl, rfl⟩
  · have HF := Lib.hid (show zdraw k = 8 from if_neg hk)
    go_enter Try.func10, Try.ntmps10
    go_wp2_with (go_at_call 26; refine (zero_find _ _ _ h).mono ?_; rintro e w1 ⟨rfl, rfl⟩)
    go_ret2
    rw [HF.out]
    exact ⟨rfl, rfl⟩
def zres (s : ByteArray) : Int := if 1 ≤ s.size ∧ s.size ≤ 15 then 20 else 1
theorem zero_reserve (g : Nat) (s : ByteArray) (w : World) (h : ZeroAt w g) (hs : s.size ≤ maxLen) :
    Calls Try.prog 9 #[.pointer (some ⟨g, 0, none⟩), .string s, .int .i64 1] w fun e w' => e = .returned (.int .i64 (zres s)) ∧ w = w' := by
  by_cases h2 : 1 ≤ s.size ∧ s.size ≤ 15
  · have HF := Lib.hid (show zres s = 20 from if_pos h2)
    have HD := Lib.hid (decide_eq_true h2)
    clear h2
    go_enter Try.func9, Try.ntmps9
    go_wp2_with (first
      | (go_at_call 23; refine (known_any s _ hs).mono ?_; rw [HD.out]; rintro e w1 ⟨rfl, rfl⟩)
      | (go_at_call 24; refine (zero_none _ _ h).mono ?_; rintro e w1 ⟨rfl, rfl⟩))
    go_ret
    exact ⟨ret_int HF.out.symm, rfl⟩
  · have HF := Lib.hid (show zres s = 1 from if_neg h2)
    have HD := Lib.hid (decide_eq_false h2)
    clear h2
    go_enter Try.func9, Try.ntmps9
    go_wp2_with (first
      | (go_at_call 23; refine (known_any s _ hs).mono ?_; rw [HD.out]; rintro e w1 ⟨rfl, rfl⟩))
    go_ret
    exact ⟨ret_int HF.out.symm, rfl⟩
theorem zero_return (g : Nat) (s : ByteArray) (v : Value) (w : World) (h : ZeroAt w g) :
    Calls Try.prog 19 #[.pointer (some ⟨g, 0, none⟩), .string s, v] w fun e w' => e = .returned (.int .i64 0) ∧ w = w' := by
  go_enter Try.func19, Try.ntmps19
  go_wp2_with (go_at_call 26; refine (zero_find _ _ _ h).mono ?_; rintro e w1 ⟨rfl, rfl⟩)
  go_ret
  exact ⟨rfl, rfl⟩
theorem zero_move (g : Nat) (s t : ByteArray) (v : Value) (w : World) (h : ZeroAt w g) :
    Calls Try.prog 18 #[.pointer (some ⟨g, 0, none⟩), .string s, .string t, v] w fun e w' => e = .returned (.int .i64 0) ∧ w = w' := by
  go_enter Try.func18, Try.ntmps18
  go_wp2_with (go_at_call 26; refine (zero_find _ _ _ h).mono ?_; rintro e w1 ⟨rfl, rfl⟩)
  go_ret
  exact ⟨rfl, rfl⟩
theorem zero_close (g : Nat) (s : ByteArray) (w : World) (h : ZeroAt w g) :
    Calls Try.prog 11 #[.pointer (some ⟨g, 0, none⟩), .string s] w fun e w' => e = .returned (.int .i64 0) ∧ w = w' := by
  go_enter Try.func11, Try.ntmps11
  go_wp2_with (go_at_call 24; refine (zero_none _ _ h).mono ?_; rintro e w1 ⟨rfl, rfl⟩)
  go_ret
  exact ⟨rfl, rfl⟩
theorem zero_left (g : Nat) (s : ByteArray) (w : World) (h : ZeroAt w g) :
    Calls Try.prog 12 #[.pointer (some ⟨g, 0, none⟩), .string s] w fun e w' => e = .returned (.int .i64 0) ∧ w = w' := by
  go_enter Try.func12, Try.ntmps12
  go_wp2_with (go_at_call 26; refine (zero_find _ _ _ h).mono ?_; rintro e w1 ⟨rfl, rfl⟩)
  go_ret
  exact ⟨rfl, rfl⟩
theorem zero_open (g : Nat) (w : World) (h : ZeroAt w g) :
    Calls Try.prog 14 #[.pointer (some ⟨g, 0, none⟩)] w fun e w' => e = .returned (.int .i64 0) ∧ w = w' := by
  go_enter Try.func14, Try.ntmps14
  go_wp2_with (go_at_call 24; refine (zero_none _ _ h).mono ?_; rintro e w1 ⟨rfl, rfl⟩)
  go_ret
  exact ⟨rfl, rfl⟩
theorem zero_holds (g : Nat) (s : ByteArray) (w : World) (h : ZeroAt w g) :
    Calls Try.prog 13 #[.pointer (some ⟨g, 0, none⟩), .string s] w fun e w' => e = .returned (.slice none 0 0) ∧ w = w' := by
  go_enter Try.func13, Try.ntmps13
  go_wp2_with (go_at_call 26; refine (zero_find _ _ _ h).mono ?_; rintro e w1 ⟨rfl, rfl⟩)
  go_ret
  exact ⟨rfl, rfl⟩
theorem zero_new (w : World) (a b c : Value) (T : TypeId) : ZeroAt (w.alloc (.cells #[a, b, c, .map none] T)) w.heap.size :=
  ⟨by simp, World.cell?_alloc_at _ _ _ _ rfl⟩
set_option maxRecDepth 100000 in
set_option maxHeartbeats 4000000 in
theorem walk_ledgerNone (s : ByteArray) (hs : s.size ≤ maxLen) (k : Int) (_ : (Lit.int .i64 k).wf = true) (w : World) :
    Calls Try.prog 5 #[.string s, .int .i64 k] w fun e w' => e = .returned (.bool true) ∧ Below w.heap.size w w' := by
  have HS := Lib.hid hs
  unfold maxLen at hs
  by_cases h60 : 60 < s.size
  · go_enter Try.func5, Try.ntmps5
    go_wp2_with (go_at_call 7; refine (alive_any _).mono ?_; rintro e w1 ⟨rfl, hb1⟩)
    go_ret
    exact ⟨rfl, hb1⟩
  · have hzd : (zdraw k == 0) = false := beq_eq_false_iff_ne.2 (by unfold zdraw; split <;> omega)
    have hzr : (zres s == 0) = false := beq_eq_false_iff_ne.2 (by unfold zres; split <;> omega)
    have hzd2 : (zdraw k != 0) = true := by simp [bne, hzd]
    have hzr2 : (zres s != 0) = true := by simp [bne, hzr]
    have Z := zero_new w (.int .i64 0) (.int .i64 0) (.map none) 42
    have hb0 := (Below.refl w.heap.size w).alloc (Nat.le_refl _) (.cells #[.int .i64 0, .int .i64 0, .map none, .map none] 42)
    go_enter Try.func5, Try.ntmps5
    go_wp2_with (first
      | (go_at_call 10; refine (zero_draw _ _ _ _ Z).mono ?_; rintro e w1 ⟨rfl, rfl⟩)
      | (go_at_call 7; refine (alive_any _).mono ?_; rintro e w1 ⟨rfl, hb1⟩
         have Z1 := Z.below hb1
         have Z2 := Z1.below ((Below.refl w1.heap.size w1).alloc (Nat.le_refl _) (.cells #[.int .i64 k] 3))
         have Z3 := Z2.below ((Below.refl _ (w1.alloc (.cells #[.int .i64 k] 3))).alloc (Nat.le_refl _) (.cells #[.int .i64 k] 3)))
      | (go_at_call 9; refine (zero_reserve _ _ _ Z1 HS.out).mono ?_; rintro e w1 ⟨rfl, rfl⟩)
      | (go_at_call 19; refine (zero_return _ _ _ _ Z2).mono ?_; rintro e w1 ⟨rfl, rfl⟩)
      | (go_at_call 11; refine (zero_close _ _ _ Z2).mono ?_; rintro e w1 ⟨rfl, rfl⟩)
      | (go_at_call 18; refine (zero_move _ _ _ _ _ Z3).mono ?_; rintro e w1 ⟨rfl, rfl⟩)
      | (go_at_call 12; refine (zero_left _ _ _ Z3).mono ?_; rintro e w1 ⟨rfl, rfl⟩)
      | (go_at_call 14; refine (zero_open _ _ Z3).mono ?_; rintro e w1 ⟨rfl, rfl⟩)
      | (go_at_call 13; refine (zero_holds _ _ _ Z3).mono ?_; rintro e w1 ⟨rfl, rfl⟩))
    go_ret
    have hb2 := hb0.trans (hb1.mono (by simp))
    exact ⟨rfl, (hb2.alloc hb2.size _).alloc (by have := hb2.size; simp; omega) _⟩
end Go.Proofs.Ytopjmjobpkpmlaa
