/-
  policy.within, grid.Divides, the search for a tier of a name (slices.ContainsFunc), policy.fits.
-/
import Derived.Test.YtnnamhomapagiaaGreatDoorRefCheckP
import Derived.Test.YtnnamhomapagiaaGreatDoorValidP
namespace Go.Proofs.YtnnamhomapagiaaGreatDoor
open Go.ChangeShapes Go.WideShapes Go.ChangeAt Go.RowKit Go.Deep

def withinB (n m : Int) : Bool := decide (1 ≤ n) && decide (n ≤ m)
set_option maxHeartbeats 400000 in
theorem within_any (n m : Int) (w : World) : Calls Tryz.prog 20 #[.int .i64 n, .int .i64 m] w fun e w' => e = .returned (.bool (withinB n m)) ∧ w = w' := by
  by_cases a : n ≥ 1 <;> by_cases b : n ≤ m
  all_goals
    go_enter Tryz.func20, Tryz.ntmps20
    go_wp2
    go_ret
    exact ⟨ret_bool (by unfold withinB; simp [a, b]), rfl⟩
def dividesB (a b : Int) : Bool := decide (1 ≤ a) && (b.tmod a == 0)
set_option maxHeartbeats 400000 in
theorem divides_any (a b : Int) (w : World) : Calls Tryz.prog 72 #[.int .i64 a, .int .i64 b] w fun e w' => e = .returned (.bool (dividesB a b)) ∧ w = w' := by
  by_cases h : a ≥ 1
  · have HF := Lib.hid (show dividesB a b = (b.tmod a == 0) from by unfold dividesB; rw [decide_eq_true h]; rfl)
    have h0 : (a == 0) = false := beq_eq_false_iff_ne.2 (by omega)
    have h1 : a ≠ 0 := by omega
    go_enter Tryz.func72, Tryz.ntmps72
    go_wp2
    go_ret
    exact ⟨ret_bool (by rw [HF.out]), rfl⟩
  · have HF := Lib.hid (show dividesB a b = false from by unfold dividesB; rw [decide_eq_false (by omega)]; rfl)
    go_enter Tryz.func72, Tryz.ntmps72
    go_wp2
    go_ret
    exact ⟨ret_bool HF.out.symm, rfl⟩
set_option maxHeartbeats 400000 in
theorem sameName_any (x t : Ti) (B : Nat) (w : World) (h : w.cell? ⟨B, 0, none⟩ = some (.string t.nm)) (hB : B < w.heap.size) :
    Calls Tryz.prog 71 #[.agg #[.string x.nm, .int .i64 x.ev, .int .i64 x.kp, .int .i64 x.sh], .pointer (some ⟨B, 0, none⟩)] w fun e w' => e = .returned (.bool (x.nm.toList == t.nm.toList)) ∧ Below w.heap.size w w' := by
  have h' := (World.cell?_alloc_past (o := .cells #[.string x.nm, .int .i64 x.ev, .int .i64 x.kp, .int .i64 x.sh] 49) B 0 hB).trans h
  go_enter Tryz.func71, Tryz.ntmps71
  go_wp2
  go_ret
  exact ⟨rfl, (Below.refl _ _).alloc (Nat.le_refl _) _⟩
set_option maxRecDepth 100000 in
set_option maxHeartbeats 2000000 in
theorem indexT_any (A : Option Addr) (n c : Nat) (l : List Ti) (t : Ti) (B : Nat) (w : World) (hA : Tis w A n l) (h : w.cell? ⟨B, 0, none⟩ = some (.string t.nm)) (hB : B < w.heap.size) :
    Calls Tryz.prog 96 #[.slice A n c, .func (.func 71) #[] #[.pointer (some ⟨B, 0, none⟩)]] w fun e w' => (∃ i : Int, e = .returned (.int .i64 i) ∧ (0 ≤ i ↔ dupB l t = true) ∧ -1 ≤ i ∧ i ≤ n) ∧ Below w.heap.size w w' := by
  have hn := hA.n_le
  unfold maxLen at hn
  have HL := Lib.hid hA.len
  go_enter Tryz.func96, Tryz.ntmps96
  go_wp2
  obtain ⟨w6, hw6⟩ : ∃ w6, w6 = w := ⟨_, rfl⟩
  subst hw6
  go_loopw [5, 8] (fun _ i wr => ∃ j : Nat, j ≤ n ∧ i = .int .i64 j ∧ Below w6.heap.size w6 wr ∧ Hid (dupB (l.take j) t = false)) (fun _ i _ => n - (intOf i).toNat)
  case atStart => exact ⟨0, Nat.zero_le _, rfl, Below.refl _ _, Lib.hid rfl⟩
  case round =>
    obtain ⟨j, hj, rfl, hbel, HD⟩ := hrel
    by_cases hlt : j < n
    · have K : j < l.length := by rw [HL.out]; exact hlt
      obtain ⟨g1, o1, rfl, hb, X⟩ := (hA.below hbel).get K
      obtain ⟨r0, r1, r2, r3⟩ := X
      have HT := Lib.hid (show l.take (j + 1) = l.take j ++ [l[j]'K] from List.take_succ_eq_append_getElem K)
      have HM := Lib.hid (show l[j]'K ∈ l from List.getElem_mem K)
      generalize l[j]'K = x at *
      have hcell := (hbel.cell (p := ⟨B, 0, none⟩) hB).trans h
      have hBr : B < wr.heap.size := Nat.lt_of_lt_of_le hB hbel.size
      have HC := Lib.hid (sameName_any x t B wr hcell hBr)
      have g0 : (0 : Int) ≤ (j : Int) := by omega
      have g1 : (j : Int) < (n : Int) := by omega
      cases he : (x.nm.toList == t.nm.toList)
      · have HN := Lib.hid (show dupB (l.take (j + 1)) t = false from by rw [HT.out, dup_snoc, HD.out, he]; rfl)
        rw [he] at HC
        go_wp2_with (go_at_call 71; refine HC.out.mono ?_; rintro e w1 ⟨rfl, hb1⟩)
        go_roundw
        case rel => exact ⟨j + 1, by omega, by go_num, hbel.trans (hb1.mono hbel.size), HN⟩
        case measure => simp [intOf]; omega
      · have HN := Lib.hid (show dupB l t = true from List.any_eq_true.2 ⟨x, HM.out, he⟩)
        rw [he] at HC
        go_wp2_with (go_at_call 71; refine HC.out.mono ?_; rintro e w1 ⟨rfl, hb1⟩)
        go_ret
        exact ⟨⟨j, rfl, by rw [HN.out]; simp, by omega, by omega⟩, hbel.trans (hb1.mono hbel.size)⟩
    · have hd : decide ((j : Int) < (n : Int)) = false := decide_eq_false (by omega)
      have HN := Lib.hid (show dupB l t = false from by have := HD.out; rwa [List.take_of_length_le (by rw [HL.out]; omega)] at this)
      go_wp2
      go_ret
      exact ⟨⟨-1, rfl, by rw [HN.out]; simp, by omega, by omega⟩, hbel⟩
set_option maxHeartbeats 2000000 in
theorem containsT_any (A : Option Addr) (n c : Nat) (l : List Ti) (t : Ti) (B : Nat) (w : World) (hA : Tis w A n l) (h : w.cell? ⟨B, 0, none⟩ = some (.string t.nm)) (hB : B < w.heap.size) :
    Calls Tryz.prog 70 #[.slice A n c, .func (.func 71) #[] #[.pointer (some ⟨B, 0, none⟩)]] w fun e w' => e = .returned (.bool (dupB l t)) ∧ Below w.heap.size w w' := by
  have HC := Lib.hid (indexT_any A n c l t B w hA h hB)
  go_enter Tryz.func70, Tryz.ntmps70
  go_wp2_with (go_at_call 96; refine HC.out.mono ?_; rintro e w1 ⟨⟨i, rfl, hi, _, _⟩, hb1⟩)
  go_ret
  refine ⟨ret_bool ?_, hb1⟩
  rw [Bool.eq_iff_iff, ← hi]
end Go.Proofs.YtnnamhomapagiaaGreatDoor
