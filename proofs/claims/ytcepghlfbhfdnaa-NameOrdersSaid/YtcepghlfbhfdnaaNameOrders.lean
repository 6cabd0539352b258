/-
  NameOrders: its walk.
-/
import Derived.Test.YtcepghlfbhfdnaaAlive5
import Derived.Test.YtcepghlfbhfdnaaRecord
namespace Go.Proofs.Ytcepghlfbhfdnaa
open Go.RowKit

/-- Block g is a variable that holds the record r. -/
structure Box (w : World) (g : Nat) (r : Rec) : Prop where
  lt : g < w.heap.size
  c0 : w.cell? ⟨g, 0, none⟩ = some (.string r.name)
  c1 : w.cell? ⟨g, 1, none⟩ = some (.int .i64 r.start)
  c2 : w.cell? ⟨g, 2, none⟩ = some (.int .i64 r.count)
  c3 : w.cell? ⟨g, 3, none⟩ = some (.int .i64 r.hi)
  c4 : w.cell? ⟨g, 4, none⟩ = some (.int .u64 r.lo)
  c5 : w.cell? ⟨g, 5, none⟩ = some (.int .i64 r.min)
  c6 : w.cell? ⟨g, 6, none⟩ = some (.int .i64 r.max)
theorem Box.below {w w' : World} {g : Nat} {r : Rec} (h : Box w g r) (hb : Below w.heap.size w w') : Box w' g r :=
  have k : ∀ o, w'.cell? ⟨g, o, none⟩ = w.cell? ⟨g, o, none⟩ := fun o => hb.cell (p := ⟨g, o, none⟩) h.lt
  ⟨Nat.lt_of_lt_of_le h.lt hb.size, (k 0).trans h.c0, (k 1).trans h.c1, (k 2).trans h.c2, (k 3).trans h.c3, (k 4).trans h.c4, (k 5).trans h.c5, (k 6).trans h.c6⟩
theorem less_is {v : Bool} {a b : ByteArray} {x y : Int} {r s t u k r' s' t' u' k' : Value} {w : World} (hv : Hid (aheadB a.toList x b.toList y = v)) :
    Calls Try.prog 10 #[.agg #[.string a, .int .i64 x, r, s, t, u, k], .agg #[.string b, .int .i64 y, r', s', t', u', k']] w fun e w' => e = .returned (.bool v) ∧ Below w.heap.size w w' :=
  (less_any a b x y r s t u k r' s' t' u' k' w).mono fun _ _ ⟨he, hb⟩ => ⟨by rw [he, hv.out], hb⟩

/-- Three variables hold three records, in W0, and in each world in which they have been kept since. -/
structure Three (w W0 : World) (r s t : Rec) : Prop where
  b1 : Box W0 w.heap.size r
  b2 : Box W0 (w.heap.size + 1) s
  b3 : Box W0 (w.heap.size + 1 + 1) t
  bel : Below w.heap.size w W0
theorem Three.new (w : World) (r s t : Rec) (T : TypeId) : Three w (((w.alloc (.cells #[.string r.name, .int .i64 r.start, .int .i64 r.count, .int .i64 r.hi, .int .u64 r.lo, .int .i64 r.min, .int .i64 r.max] T)).alloc (.cells #[.string s.name, .int .i64 s.start, .int .i64 s.count, .int .i64 s.hi, .int .u64 s.lo, .int .i64 s.min, .int .i64 s.max] T)).alloc (.cells #[.string t.name, .int .i64 t.start, .int .i64 t.count, .int .i64 t.hi, .int .u64 t.lo, .int .i64 t.min, .int .i64 t.max] T)) r s t :=
  ⟨⟨by simp; omega, by simp [go_sem], by simp [go_sem], by simp [go_sem], by simp [go_sem], by simp [go_sem], by simp [go_sem], by simp [go_sem]⟩,
   ⟨by simp, by simp [go_sem], by simp [go_sem], by simp [go_sem], by simp [go_sem], by simp [go_sem], by simp [go_sem], by simp [go_sem]⟩,
   ⟨by simp, by simp [go_sem], by simp [go_sem], by simp [go_sem], by simp [go_sem], by simp [go_sem], by simp [go_sem], by simp [go_sem]⟩,
   (((Below.refl _ _).alloc (Nat.le_refl _) _).alloc (by simp) _).alloc (by simp; omega) _⟩
theorem Three.below {w W0 w1 : World} {r s t : Rec} (h : Three w W0 r s t) (hb : Below W0.heap.size W0 w1) : Three w w1 r s t :=
  ⟨h.b1.below hb, h.b2.below hb, h.b3.below hb, h.bel.trans (hb.mono (by have := h.b1.lt; omega))⟩
set_option maxHeartbeats 2000000 in
theorem orders_a0 (r s t : Rec) (w : World) (h1 : r.name.size ≤ 300) (h2 : s.name.size ≤ 300) (h3 : t.name.size ≤ 300)
    (H0 : Hid (aheadB r.name.toList r.start r.name.toList r.start = false)) (H1 : Hid (aheadB r.name.toList r.start s.name.toList s.start = true)) (H2 : Hid (aheadB s.name.toList s.start r.name.toList r.start = false)) (H3 : Hid (aheadB s.name.toList s.start t.name.toList t.start = true)) (H4 : Hid (aheadB r.name.toList r.start t.name.toList t.start = true))
    (hn : ¬ r.name.toList = s.name.toList) :
    Calls Try.prog 4 #[.agg #[.string r.name, .int .i64 r.start, .int .i64 r.count, .int .i64 r.hi, .int .u64 r.lo, .int .i64 r.min, .int .i64 r.max], .agg #[.string s.name, .int .i64 s.start, .int .i64 s.count, .int .i64 s.hi, .int .u64 s.lo, .int .i64 s.min, .int .i64 s.max], .agg #[.string t.name, .int .i64 t.start, .int .i64 t.count, .int .i64 t.hi, .int .u64 t.lo, .int .i64 t.min, .int .i64 t.max]] w fun e w' => e = .returned (.bool true) ∧ Below w.heap.size w w' := by
  have T0 := Three.new w r s t 29
  go_enter Try.func4, Try.ntmps4
  go_wp2_with fail
  refine (alive_any _).mono ?_
  rintro e w1 ⟨rfl, hb⟩
  have T1 := T0.below hb
  clear T0 hb
  obtain ⟨⟨_, c0, c1, c2, c3, c4, c5, c6⟩, ⟨_, d0, d1, d2, d3, d4, d5, d6⟩, ⟨_, f0, f1, f2, f3, f4, f5, f6⟩, _⟩ := id T1
  go_wp2_with fail
  refine (less_is H0).mono ?_
  rintro e w2 ⟨rfl, hb⟩
  have T2 := T1.below hb
  clear T1 hb c0 c1 c2 c3 c4 c5 c6 d0 d1 d2 d3 d4 d5 d6 f0 f1 f2 f3 f4 f5 f6
  obtain ⟨⟨_, c0, c1, c2, c3, c4, c5, c6⟩, ⟨_, d0, d1, d2, d3, d4, d5, d6⟩, ⟨_, f0, f1, f2, f3, f4, f5, f6⟩, _⟩ := id T2
  go_wp2_with fail
  refine (less_is H1).mono ?_
  rintro e w3 ⟨rfl, hb⟩
  have T3 := T2.below hb
  clear T2 hb c0 c1 c2 c3 c4 c5 c6 d0 d1 d2 d3 d4 d5 d6 f0 f1 f2 f3 f4 f5 f6
  obtain ⟨⟨_, c0, c1, c2, c3, c4, c5, c6⟩, ⟨_, d0, d1, d2, d3, d4, d5, d6⟩, ⟨_, f0, f1, f2, f3, f4, f5, f6⟩, _⟩ := id T3
  go_wp2_with fail
  refine (less_is H2).mono ?_
  rintro e w4 ⟨rfl, hb⟩
  have T4 := T3.below hb
  clear T3 hb c0 c1 c2 c3 c4 c5 c6 d0 d1 d2 d3 d4 d5 d6 f0 f1 f2 f3 f4 f5 f6
  obtain ⟨⟨_, c0, c1, c2, c3, c4, c5, c6⟩, ⟨_, d0, d1, d2, d3, d4, d5, d6⟩, ⟨_, f0, f1, f2, f3, f4, f5, f6⟩, _⟩ := id T4
  go_wp2_with fail
  refine (less_is H1).mono ?_
  rintro e w5 ⟨rfl, hb⟩
  have T5 := T4.below hb
  clear T4 hb c0 c1 c2 c3 c4 c5 c6 d0 d1 d2 d3 d4 d5 d6 f0 f1 f2 f3 f4 f5 f6
  obtain ⟨⟨_, c0, c1, c2, c3, c4, c5, c6⟩, ⟨_, d0, d1, d2, d3, d4, d5, d6⟩, ⟨_, f0, f1, f2, f3, f4, f5, f6⟩, _⟩ := id T5
  go_wp2_with fail
  refine (less_is H3).mono ?_
  rintro e w6 ⟨rfl, hb⟩
  have T6 := T5.below hb
  clear T5 hb c0 c1 c2 c3 c4 c5 c6 d0 d1 d2 d3 d4 d5 d6 f0 f1 f2 f3 f4 f5 f6
  obtain ⟨⟨_, c0, c1, c2, c3, c4, c5, c6⟩, ⟨_, d0, d1, d2, d3, d4, d5, d6⟩, ⟨_, f0, f1, f2, f3, f4, f5, f6⟩, _⟩ := id T6
  go_wp2_with fail
  refine (less_is H4).mono ?_
  rintro e w7 ⟨rfl, hb⟩
  have T7 := T6.below hb
  clear T6 hb c0 c1 c2 c3 c4 c5 c6 d0 d1 d2 d3 d4 d5 d6 f0 f1 f2 f3 f4 f5 f6
  obtain ⟨⟨_, c0, c1, c2, c3, c4, c5, c6⟩, ⟨_, d0, d1, d2, d3, d4, d5, d6⟩, ⟨_, f0, f1, f2, f3, f4, f5, f6⟩, _⟩ := id T7
  go_wp2_with fail
  refine (less_is H1).mono ?_
  rintro e w8 ⟨rfl, hb⟩
  have T8 := T7.below hb
  clear T7 hb c0 c1 c2 c3 c4 c5 c6 d0 d1 d2 d3 d4 d5 d6 f0 f1 f2 f3 f4 f5 f6
  obtain ⟨⟨_, c0, c1, c2, c3, c4, c5, c6⟩, ⟨_, d0, d1, d2, d3, d4, d5, d6⟩, ⟨_, f0, f1, f2, f3, f4, f5, f6⟩, _⟩ := id T8
  go_wp2_with fail
  go_ret
  exact ⟨rfl, T8.bel⟩
set_option maxHeartbeats 2000000 in
theorem orders_b0 (r s t : Rec) (w : World) (h1 : r.name.size ≤ 300) (h2 : s.name.size ≤ 300) (h3 : t.name.size ≤ 300)
    (H0 : Hid (aheadB r.name.toList r.start r.name.toList r.start = false)) (H1 : Hid (aheadB r.name.toList r.start s.name.toList s.start = true)) (H2 : Hid (aheadB s.name.toList s.start r.name.toList r.start = false)) (H3 : Hid (aheadB s.name.toList s.start t.name.toList t.start = false))
    (hn : ¬ r.name.toList = s.name.toList) :
    Calls Try.prog 4 #[.agg #[.string r.name, .int .i64 r.start, .int .i64 r.count, .int .i64 r.hi, .int .u64 r.lo, .int .i64 r.min, .int .i64 r.max], .agg #[.string s.name, .int .i64 s.start, .int .i64 s.count, .int .i64 s.hi, .int .u64 s.lo, .int .i64 s.min, .int .i64 s.max], .agg #[.string t.name, .int .i64 t.start, .int .i64 t.count, .int .i64 t.hi, .int .u64 t.lo, .int .i64 t.min, .int .i64 t.max]] w fun e w' => e = .returned (.bool true) ∧ Below w.heap.size w w' := by
  have T0 := Three.new w r s t 29
  go_enter Try.func4, Try.ntmps4
  go_wp2_with fail
  refine (alive_any _).mono ?_
  rintro e w1 ⟨rfl, hb⟩
  have T1 := T0.below hb
  clear T0 hb
  obtain ⟨⟨_, c0, c1, c2, c3, c4, c5, c6⟩, ⟨_, d0, d1, d2, d3, d4, d5, d6⟩, ⟨_, f0, f1, f2, f3, f4, f5, f6⟩, _⟩ := id T1
  go_wp2_with fail
  refine (less_is H0).mono ?_
  rintro e w2 ⟨rfl, hb⟩
  have T2 := T1.below hb
  clear T1 hb c0 c1 c2 c3 c4 c5 c6 d0 d1 d2 d3 d4 d5 d6 f0 f1 f2 f3 f4 f5 f6
  obtain ⟨⟨_, c0, c1, c2, c3, c4, c5, c6⟩, ⟨_, d0, d1, d2, d3, d4, d5, d6⟩, ⟨_, f0, f1, f2, f3, f4, f5, f6⟩, _⟩ := id T2
  go_wp2_with fail
  refine (less_is H1).mono ?_
  rintro e w3 ⟨rfl, hb⟩
  have T3 := T2.below hb
  clear T2 hb c0 c1 c2 c3 c4 c5 c6 d0 d1 d2 d3 d4 d5 d6 f0 f1 f2 f3 f4 f5 f6
  obtain ⟨⟨_, c0, c1, c2, c3, c4, c5, c6⟩, ⟨_, d0, d1, d2, d3, d4, d5, d6⟩, ⟨_, f0, f1, f2, f3, f4, f5, f6⟩, _⟩ := id T3
  go_wp2_with fail
  refine (less_is H2).mono ?_
  rintro e w4 ⟨rfl, hb⟩
  have T4 := T3.below hb
  clear T3 hb c0 c1 c2 c3 c4 c5 c6 d0 d1 d2 d3 d4 d5 d6 f0 f1 f2 f3 f4 f5 f6
  obtain ⟨⟨_, c0, c1, c2, c3, c4, c5, c6⟩, ⟨_, d0, d1, d2, d3, d4, d5, d6⟩, ⟨_, f0, f1, f2, f3, f4, f5, f6⟩, _⟩ := id T4
  go_wp2_with fail
  refine (less_is H1).mono ?_
  rintro e w5 ⟨rfl, hb⟩
  have T5 := T4.below hb
  clear T4 hb c0 c1 c2 c3 c4 c5 c6 d0 d1 d2 d3 d4 d5 d6 f0 f1 f2 f3 f4 f5 f6
  obtain ⟨⟨_, c0, c1, c2, c3, c4, c5, c6⟩, ⟨_, d0, d1, d2, d3, d4, d5, d6⟩, ⟨_, f0, f1, f2, f3, f4, f5, f6⟩, _⟩ := id T5
  go_wp2_with fail
  refine (less_is H3).mono ?_
  rintro e w6 ⟨rfl, hb⟩
  have T6 := T5.below hb
  clear T5 hb c0 c1 c2 c3 c4 c5 c6 d0 d1 d2 d3 d4 d5 d6 f0 f1 f2 f3 f4 f5 f6
  obtain ⟨⟨_, c0, c1, c2, c3, c4, c5, c6⟩, ⟨_, d0, d1, d2, d3, d4, d5, d6⟩, ⟨_, f0, f1, f2, f3, f4, f5, f6⟩, _⟩ := id T6
  go_wp2_with fail
  refine (less_is H1).mono ?_
  rintro e w7 ⟨rfl, hb⟩
  have T7 := T6.below hb
  clear T6 hb c0 c1 c2 c3 c4 c5 c6 d0 d1 d2 d3 d4 d5 d6 f0 f1 f2 f3 f4 f5 f6
  obtain ⟨⟨_, c0, c1, c2, c3, c4, c5, c6⟩, ⟨_, d0, d1, d2, d3, d4, d5, d6⟩, ⟨_, f0, f1, f2, f3, f4, f5, f6⟩, _⟩ := id T7
  go_wp2_with fail
  go_ret
  exact ⟨rfl, T7.bel⟩
set_option maxHeartbeats 2000000 in
theorem orders_c0 (r s t : Rec) (w : World) (h1 : r.name.size ≤ 300) (h2 : s.name.size ≤ 300) (h3 : t.name.size ≤ 300)
    (H0 : Hid (aheadB r.name.toList r.start r.name.toList r.start = false)) (H1 : Hid (aheadB r.name.toList r.start s.name.toList s.start = false)) (H2 : Hid (aheadB s.name.toList s.start r.name.toList r.start = true))
    (hn : ¬ r.name.toList = s.name.toList) :
    Calls Try.prog 4 #[.agg #[.string r.name, .int .i64 r.start, .int .i64 r.count, .int .i64 r.hi, .int .u64 r.lo, .int .i64 r.min, .int .i64 r.max], .agg #[.string s.name, .int .i64 s.start, .int .i64 s.count, .int .i64 s.hi, .int .u64 s.lo, .int .i64 s.min, .int .i64 s.max], .agg #[.string t.name, .int .i64 t.start, .int .i64 t.count, .int .i64 t.hi, .int .u64 t.lo, .int .i64 t.min, .int .i64 t.max]] w fun e w' => e = .returned (.bool true) ∧ Below w.heap.size w w' := by
  have T0 := Three.new w r s t 29
  go_enter Try.func4, Try.ntmps4
  go_wp2_with fail
  refine (alive_any _).mono ?_
  rintro e w1 ⟨rfl, hb⟩
  have T1 := T0.below hb
  clear T0 hb
  obtain ⟨⟨_, c0, c1, c2, c3, c4, c5, c6⟩, ⟨_, d0, d1, d2, d3, d4, d5, d6⟩, ⟨_, f0, f1, f2, f3, f4, f5, f6⟩, _⟩ := id T1
  go_wp2_with fail
  refine (less_is H0).mono ?_
  rintro e w2 ⟨rfl, hb⟩
  have T2 := T1.below hb
  clear T1 hb c0 c1 c2 c3 c4 c5 c6 d0 d1 d2 d3 d4 d5 d6 f0 f1 f2 f3 f4 f5 f6
  obtain ⟨⟨_, c0, c1, c2, c3, c4, c5, c6⟩, ⟨_, d0, d1, d2, d3, d4, d5, d6⟩, ⟨_, f0, f1, f2, f3, f4, f5, f6⟩, _⟩ := id T2
  go_wp2_with fail
  refine (less_is H1).mono ?_
  rintro e w3 ⟨rfl, hb⟩
  have T3 := T2.below hb
  clear T2 hb c0 c1 c2 c3 c4 c5 c6 d0 d1 d2 d3 d4 d5 d6 f0 f1 f2 f3 f4 f5 f6
  obtain ⟨⟨_, c0, c1, c2, c3, c4, c5, c6⟩, ⟨_, d0, d1, d2, d3, d4, d5, d6⟩, ⟨_, f0, f1, f2, f3, f4, f5, f6⟩, _⟩ := id T3
  go_wp2_with fail
  refine (less_is H1).mono ?_
  rintro e w4 ⟨rfl, hb⟩
  have T4 := T3.below hb
  clear T3 hb c0 c1 c2 c3 c4 c5 c6 d0 d1 d2 d3 d4 d5 d6 f0 f1 f2 f3 f4 f5 f6
  obtain ⟨⟨_, c0, c1, c2, c3, c4, c5, c6⟩, ⟨_, d0, d1, d2, d3, d4, d5, d6⟩, ⟨_, f0, f1, f2, f3, f4, f5, f6⟩, _⟩ := id T4
  go_wp2_with fail
  refine (less_is H1).mono ?_
  rintro e w5 ⟨rfl, hb⟩
  have T5 := T4.below hb
  clear T4 hb c0 c1 c2 c3 c4 c5 c6 d0 d1 d2 d3 d4 d5 d6 f0 f1 f2 f3 f4 f5 f6
  obtain ⟨⟨_, c0, c1, c2, c3, c4, c5, c6⟩, ⟨_, d0, d1, d2, d3, d4, d5, d6⟩, ⟨_, f0, f1, f2, f3, f4, f5, f6⟩, _⟩ := id T5
  go_wp2_with fail
  refine (less_is H2).mono ?_
  rintro e w6 ⟨rfl, hb⟩
  have T6 := T5.below hb
  clear T5 hb c0 c1 c2 c3 c4 c5 c6 d0 d1 d2 d3 d4 d5 d6 f0 f1 f2 f3 f4 f5 f6
  obtain ⟨⟨_, c0, c1, c2, c3, c4, c5, c6⟩, ⟨_, d0, d1, d2, d3, d4, d5, d6⟩, ⟨_, f0, f1, f2, f3, f4, f5, f6⟩, _⟩ := id T6
  go_wp2_with fail
  go_ret
  exact ⟨rfl, T6.bel⟩
set_option maxHeartbeats 2000000 in
theorem orders_a1 (r s t : Rec) (w : World) (h1 : r.name.size ≤ 300) (h2 : s.name.size ≤ 300) (h3 : t.name.size ≤ 300)
    (H0 : Hid (aheadB r.name.toList r.start r.name.toList r.start = false)) (H1 : Hid (aheadB r.name.toList r.start s.name.toList s.start = true)) (H2 : Hid (aheadB s.name.toList s.start r.name.toList r.start = false)) (H3 : Hid (aheadB s.name.toList s.start t.name.toList t.start = true)) (H4 : Hid (aheadB r.name.toList r.start t.name.toList t.start = true))
    (hn : r.name.toList = s.name.toList) (hst : ¬ r.start = s.start) :
    Calls Try.prog 4 #[.agg #[.string r.name, .int .i64 r.start, .int .i64 r.count, .int .i64 r.hi, .int .u64 r.lo, .int .i64 r.min, .int .i64 r.max], .agg #[.string s.name, .int .i64 s.start, .int .i64 s.count, .int .i64 s.hi, .int .u64 s.lo, .int .i64 s.min, .int .i64 s.max], .agg #[.string t.name, .int .i64 t.start, .int .i64 t.count, .int .i64 t.hi, .int .u64 t.lo, .int .i64 t.min, .int .i64 t.max]] w fun e w' => e = .returned (.bool true) ∧ Below w.heap.size w w' := by
  have T0 := Three.new w r s t 29
  go_enter Try.func4, Try.ntmps4
  go_wp2_with fail
  refine (alive_any _).mono ?_
  rintro e w1 ⟨rfl, hb⟩
  have T1 := T0.below hb
  clear T0 hb
  obtain ⟨⟨_, c0, c1, c2, c3, c4, c5, c6⟩, ⟨_, d0, d1, d2, d3, d4, d5, d6⟩, ⟨_, f0, f1, f2, f3, f4, f5, f6⟩, _⟩ := id T1
  go_wp2_with fail
  refine (less_is H0).mono ?_
  rintro e w2 ⟨rfl, hb⟩
  have T2 := T1.below hb
  clear T1 hb c0 c1 c2 c3 c4 c5 c6 d0 d1 d2 d3 d4 d5 d6 f0 f1 f2 f3 f4 f5 f6
  obtain ⟨⟨_, c0, c1, c2, c3, c4, c5, c6⟩, ⟨_, d0, d1, d2, d3, d4, d5, d6⟩, ⟨_, f0, f1, f2, f3, f4, f5, f6⟩, _⟩ := id T2
  go_wp2_with fail
  refine (less_is H1).mono ?_
  rintro e w3 ⟨rfl, hb⟩
  have T3 := T2.below hb
  clear T2 hb c0 c1 c2 c3 c4 c5 c6 d0 d1 d2 d3 d4 d5 d6 f0 f1 f2 f3 f4 f5 f6
  obtain ⟨⟨_, c0, c1, c2, c3, c4, c5, c6⟩, ⟨_, d0, d1, d2, d3, d4, d5, d6⟩, ⟨_, f0, f1, f2, f3, f4, f5, f6⟩, _⟩ := id T3
  go_wp2_with fail
  refine (less_is H2).mono ?_
  rintro e w4 ⟨rfl, hb⟩
  have T4 := T3.below hb
  clear T3 hb c0 c1 c2 c3 c4 c5 c6 d0 d1 d2 d3 d4 d5 d6 f0 f1 f2 f3 f4 f5 f6
  obtain ⟨⟨_, c0, c1, c2, c3, c4, c5, c6⟩, ⟨_, d0, d1, d2, d3, d4, d5, d6⟩, ⟨_, f0, f1, f2, f3, f4, f5, f6⟩, _⟩ := id T4
  go_wp2_with fail
  refine (less_is H1).mono ?_
  rintro e w5 ⟨rfl, hb⟩
  have T5 := T4.below hb
  clear T4 hb c0 c1 c2 c3 c4 c5 c6 d0 d1 d2 d3 d4 d5 d6 f0 f1 f2 f3 f4 f5 f6
  obtain ⟨⟨_, c0, c1, c2, c3, c4, c5, c6⟩, ⟨_, d0, d1, d2, d3, d4, d5, d6⟩, ⟨_, f0, f1, f2, f3, f4, f5, f6⟩, _⟩ := id T5
  go_wp2_with fail
  refine (less_is H3).mono ?_
  rintro e w6 ⟨rfl, hb⟩
  have T6 := T5.below hb
  clear T5 hb c0 c1 c2 c3 c4 c5 c6 d0 d1 d2 d3 d4 d5 d6 f0 f1 f2 f3 f4 f5 f6
  obtain ⟨⟨_, c0, c1, c2, c3, c4, c5, c6⟩, ⟨_, d0, d1, d2, d3, d4, d5, d6⟩, ⟨_, f0, f1, f2, f3, f4, f5, f6⟩, _⟩ := id T6
  go_wp2_with fail
  refine (less_is H4).mono ?_
  rintro e w7 ⟨rfl, hb⟩
  have T7 := T6.below hb
  clear T6 hb c0 c1 c2 c3 c4 c5 c6 d0 d1 d2 d3 d4 d5 d6 f0 f1 f2 f3 f4 f5 f6
  obtain ⟨⟨_, c0, c1, c2, c3, c4, c5, c6⟩, ⟨_, d0, d1, d2, d3, d4, d5, d6⟩, ⟨_, f0, f1, f2, f3, f4, f5, f6⟩, _⟩ := id T7
  go_wp2_with fail
  refine (less_is H1).mono ?_
  rintro e w8 ⟨rfl, hb⟩
  have T8 := T7.below hb
  clear T7 hb c0 c1 c2 c3 c4 c5 c6 d0 d1 d2 d3 d4 d5 d6 f0 f1 f2 f3 f4 f5 f6
  obtain ⟨⟨_, c0, c1, c2, c3, c4, c5, c6⟩, ⟨_, d0, d1, d2, d3, d4, d5, d6⟩, ⟨_, f0, f1, f2, f3, f4, f5, f6⟩, _⟩ := id T8
  go_wp2_with fail
  go_ret
  exact ⟨rfl, T8.bel⟩
set_option maxHeartbeats 2000000 in
theorem orders_b1 (r s t : Rec) (w : World) (h1 : r.name.size ≤ 300) (h2 : s.name.size ≤ 300) (h3 : t.name.size ≤ 300)
    (H0 : Hid (aheadB r.name.toList r.start r.name.toList r.start = false)) (H1 : Hid (aheadB r.name.toList r.start s.name.toList s.start = true)) (H2 : Hid (aheadB s.name.toList s.start r.name.toList r.start = false)) (H3 : Hid (aheadB s.name.toList s.start t.name.toList t.start = false))
    (hn : r.name.toList = s.name.toList) (hst : ¬ r.start = s.start) :
    Calls Try.prog 4 #[.agg #[.string r.name, .int .i64 r.start, .int .i64 r.count, .int .i64 r.hi, .int .u64 r.lo, .int .i64 r.min, .int .i64 r.max], .agg #[.string s.name, .int .i64 s.start, .int .i64 s.count, .int .i64 s.hi, .int .u64 s.lo, .int .i64 s.min, .int .i64 s.max], .agg #[.string t.name, .int .i64 t.start, .int .i64 t.count, .int .i64 t.hi, .int .u64 t.lo, .int .i64 t.min, .int .i64 t.max]] w fun e w' => e = .returned (.bool true) ∧ Below w.heap.size w w' := by
  have T0 := Three.new w r s t 29
  go_enter Try.func4, Try.ntmps4
  go_wp2_with fail
  refine (alive_any _).mono ?_
  rintro e w1 ⟨rfl, hb⟩
  have T1 := T0.below hb
  clear T0 hb
  obtain ⟨⟨_, c0, c1, c2, c3, c4, c5, c6⟩, ⟨_, d0, d1, d2, d3, d4, d5, d6⟩, ⟨_, f0, f1, f2, f3, f4, f5, f6⟩, _⟩ := id T1
  go_wp2_with fail
  refine (less_is H0).mono ?_
  rintro e w2 ⟨rfl, hb⟩
  have T2 := T1.below hb
  clear T1 hb c0 c1 c2 c3 c4 c5 c6 d0 d1 d2 d3 d4 d5 d6 f0 f1 f2 f3 f4 f5 f6
  obtain ⟨⟨_, c0, c1, c2, c3, c4, c5, c6⟩, ⟨_, d0, d1, d2, d3, d4, d5, d6⟩, ⟨_, f0, f1, f2, f3, f4, f5, f6⟩, _⟩ := id T2
  go_wp2_with fail
  refine (less_is H1).mono ?_
  rintro e w3 ⟨rfl, hb⟩
  have T3 := T2.below hb
  clear T2 hb c0 c1 c2 c3 c4 c5 c6 d0 d1 d2 d3 d4 d5 d6 f0 f1 f2 f3 f4 f5 f6
  obtain ⟨⟨_, c0, c1, c2, c3, c4, c5, c6⟩, ⟨_, d0, d1, d2, d3, d4, d5, d6⟩, ⟨_, f0, f1, f2, f3, f4, f5, f6⟩, _⟩ := id T3
  go_wp2_with fail
  refine (less_is H2).mono ?_
  rintro e w4 ⟨rfl, hb⟩
  have T4 := T3.below hb
  clear T3 hb c0 c1 c2 c3 c4 c5 c6 d0 d1 d2 d3 d4 d5 d6 f0 f1 f2 f3 f4 f5 f6
  obtain ⟨⟨_, c0, c1, c2, c3, c4, c5, c6⟩, ⟨_, d0, d1, d2, d3, d4, d5, d6⟩, ⟨_, f0, f1, f2, f3, f4, f5, f6⟩, _⟩ := id T4
  go_wp2_with fail
  refine (less_is H1).mono ?_
  rintro e w5 ⟨rfl, hb⟩
  have T5 := T4.below hb
  clear T4 hb c0 c1 c2 c3 c4 c5 c6 d0 d1 d2 d3 d4 d5 d6 f0 f1 f2 f3 f4 f5 f6
  obtain ⟨⟨_, c0, c1, c2, c3, c4, c5, c6⟩, ⟨_, d0, d1, d2, d3, d4, d5, d6⟩, ⟨_, f0, f1, f2, f3, f4, f5, f6⟩, _⟩ := id T5
  go_wp2_with fail
  refine (less_is H3).mono ?_
  rintro e w6 ⟨rfl, hb⟩
  have T6 := T5.below hb
  clear T5 hb c0 c1 c2 c3 c4 c5 c6 d0 d1 d2 d3 d4 d5 d6 f0 f1 f2 f3 f4 f5 f6
  obtain ⟨⟨_, c0, c1, c2, c3, c4, c5, c6⟩, ⟨_, d0, d1, d2, d3, d4, d5, d6⟩, ⟨_, f0, f1, f2, f3, f4, f5, f6⟩, _⟩ := id T6
  go_wp2_with fail
  refine (less_is H1).mono ?_
  rintro e w7 ⟨rfl, hb⟩
  have T7 := T6.below hb
  clear T6 hb c0 c1 c2 c3 c4 c5 c6 d0 d1 d2 d3 d4 d5 d6 f0 f1 f2 f3 f4 f5 f6
  obtain ⟨⟨_, c0, c1, c2, c3, c4, c5, c6⟩, ⟨_, d0, d1, d2, d3, d4, d5, d6⟩, ⟨_, f0, f1, f2, f3, f4, f5, f6⟩, _⟩ := id T7
  go_wp2_with fail
  go_ret
  exact ⟨rfl, T7.bel⟩
set_option maxHeartbeats 2000000 in
theorem orders_c1 (r s t : Rec) (w : World) (h1 : r.name.size ≤ 300) (h2 : s.name.size ≤ 300) (h3 : t.name.size ≤ 300)
    (H0 : Hid (aheadB r.name.toList r.start r.name.toList r.start = false)) (H1 : Hid (aheadB r.name.toList r.start s.name.toList s.start = false)) (H2 : Hid (aheadB s.name.toList s.start r.name.toList r.start = true))
    (hn : r.name.toList = s.name.toList) (hst : ¬ r.start = s.start) :
    Calls Try.prog 4 #[.agg #[.string r.name, .int .i64 r.start, .int .i64 r.count, .int .i64 r.hi, .int .u64 r.lo, .int .i64 r.min, .int .i64 r.max], .agg #[.string s.name, .int .i64 s.start, .int .i64 s.count, .int .i64 s.hi, .int .u64 s.lo, .int .i64 s.min, .int .i64 s.max], .agg #[.string t.name, .int .i64 t.start, .int .i64 t.count, .int .i64 t.hi, .int .u64 t.lo, .int .i64 t.min, .int .i64 t.max]] w fun e w' => e = .returned (.bool true) ∧ Below w.heap.size w w' := by
  have T0 := Three.new w r s t 29
  go_enter Try.func4, Try.ntmps4
  go_wp2_with fail
  refine (alive_any _).mono ?_
  rintro e w1 ⟨rfl, hb⟩
  have T1 := T0.below hb
  clear T0 hb
  obtain ⟨⟨_, c0, c1, c2, c3, c4, c5, c6⟩, ⟨_, d0, d1, d2, d3, d4, d5, d6⟩, ⟨_, f0, f1, f2, f3, f4, f5, f6⟩, _⟩ := id T1
  go_wp2_with fail
  refine (less_is H0).mono ?_
  rintro e w2 ⟨rfl, hb⟩
  have T2 := T1.below hb
  clear T1 hb c0 c1 c2 c3 c4 c5 c6 d0 d1 d2 d3 d4 d5 d6 f0 f1 f2 f3 f4 f5 f6
  obtain ⟨⟨_, c0, c1, c2, c3, c4, c5, c6⟩, ⟨_, d0, d1, d2, d3, d4, d5, d6⟩, ⟨_, f0, f1, f2, f3, f4, f5, f6⟩, _⟩ := id T2
  go_wp2_with fail
  refine (less_is H1).mono ?_
  rintro e w3 ⟨rfl, hb⟩
  have T3 := T2.below hb
  clear T2 hb c0 c1 c2 c3 c4 c5 c6 d0 d1 d2 d3 d4 d5 d6 f0 f1 f2 f3 f4 f5 f6
  obtain ⟨⟨_, c0, c1, c2, c3, c4, c5, c6⟩, ⟨_, d0, d1, d2, d3, d4, d5, d6⟩, ⟨_, f0, f1, f2, f3, f4, f5, f6⟩, _⟩ := id T3
  go_wp2_with fail
  refine (less_is H1).mono ?_
  rintro e w4 ⟨rfl, hb⟩
  have T4 := T3.below hb
  clear T3 hb c0 c1 c2 c3 c4 c5 c6 d0 d1 d2 d3 d4 d5 d6 f0 f1 f2 f3 f4 f5 f6
  obtain ⟨⟨_, c0, c1, c2, c3, c4, c5, c6⟩, ⟨_, d0, d1, d2, d3, d4, d5, d6⟩, ⟨_, f0, f1, f2, f3, f4, f5, f6⟩, _⟩ := id T4
  go_wp2_with fail
  refine (less_is H1).mono ?_
  rintro e w5 ⟨rfl, hb⟩
  have T5 := T4.below hb
  clear T4 hb c0 c1 c2 c3 c4 c5 c6 d0 d1 d2 d3 d4 d5 d6 f0 f1 f2 f3 f4 f5 f6
  obtain ⟨⟨_, c0, c1, c2, c3, c4, c5, c6⟩, ⟨_, d0, d1, d2, d3, d4, d5, d6⟩, ⟨_, f0, f1, f2, f3, f4, f5, f6⟩, _⟩ := id T5
  go_wp2_with fail
  refine (less_is H2).mono ?_
  rintro e w6 ⟨rfl, hb⟩
  have T6 := T5.below hb
  clear T5 hb c0 c1 c2 c3 c4 c5 c6 d0 d1 d2 d3 d4 d5 d6 f0 f1 f2 f3 f4 f5 f6
  obtain ⟨⟨_, c0, c1, c2, c3, c4, c5, c6⟩, ⟨_, d0, d1, d2, d3, d4, d5, d6⟩, ⟨_, f0, f1, f2, f3, f4, f5, f6⟩, _⟩ := id T6
  go_wp2_with fail
  go_ret
  exact ⟨rfl, T6.bel⟩
set_option maxHeartbeats 2000000 in
theorem orders_d (r s t : Rec) (w : World) (h1 : r.name.size ≤ 300) (h2 : s.name.size ≤ 300) (h3 : t.name.size ≤ 300)
    (H0 : Hid (aheadB r.name.toList r.start r.name.toList r.start = false)) (H1 : Hid (aheadB r.name.toList r.start s.name.toList s.start = false))
    (hn : (r.name.toList == s.name.toList) = true) (hst : (r.start == s.start) = true) :
    Calls Try.prog 4 #[.agg #[.string r.name, .int .i64 r.start, .int .i64 r.count, .int .i64 r.hi, .int .u64 r.lo, .int .i64 r.min, .int .i64 r.max], .agg #[.string s.name, .int .i64 s.start, .int .i64 s.count, .int .i64 s.hi, .int .u64 s.lo, .int .i64 s.min, .int .i64 s.max], .agg #[.string t.name, .int .i64 t.start, .int .i64 t.count, .int .i64 t.hi, .int .u64 t.lo, .int .i64 t.min, .int .i64 t.max]] w fun e w' => e = .returned (.bool true) ∧ Below w.heap.size w w' := by
  have T0 := Three.new w r s t 29
  go_enter Try.func4, Try.ntmps4
  go_wp2_with fail
  refine (alive_any _).mono ?_
  rintro e w1 ⟨rfl, hb⟩
  have T1 := T0.below hb
  clear T0 hb
  obtain ⟨⟨_, c0, c1, c2, c3, c4, c5, c6⟩, ⟨_, d0, d1, d2, d3, d4, d5, d6⟩, ⟨_, f0, f1, f2, f3, f4, f5, f6⟩, _⟩ := id T1
  go_wp2_with fail
  refine (less_is H0).mono ?_
  rintro e w2 ⟨rfl, hb⟩
  have T2 := T1.below hb
  clear T1 hb c0 c1 c2 c3 c4 c5 c6 d0 d1 d2 d3 d4 d5 d6 f0 f1 f2 f3 f4 f5 f6
  obtain ⟨⟨_, c0, c1, c2, c3, c4, c5, c6⟩, ⟨_, d0, d1, d2, d3, d4, d5, d6⟩, ⟨_, f0, f1, f2, f3, f4, f5, f6⟩, _⟩ := id T2
  go_wp2_with fail
  refine (less_is H1).mono ?_
  rintro e w3 ⟨rfl, hb⟩
  have T3 := T2.below hb
  clear T2 hb c0 c1 c2 c3 c4 c5 c6 d0 d1 d2 d3 d4 d5 d6 f0 f1 f2 f3 f4 f5 f6
  obtain ⟨⟨_, c0, c1, c2, c3, c4, c5, c6⟩, ⟨_, d0, d1, d2, d3, d4, d5, d6⟩, ⟨_, f0, f1, f2, f3, f4, f5, f6⟩, _⟩ := id T3
  go_wp2_with fail
  refine (less_is H1).mono ?_
  rintro e w4 ⟨rfl, hb⟩
  have T4 := T3.below hb
  clear T3 hb c0 c1 c2 c3 c4 c5 c6 d0 d1 d2 d3 d4 d5 d6 f0 f1 f2 f3 f4 f5 f6
  obtain ⟨⟨_, c0, c1, c2, c3, c4, c5, c6⟩, ⟨_, d0, d1, d2, d3, d4, d5, d6⟩, ⟨_, f0, f1, f2, f3, f4, f5, f6⟩, _⟩ := id T4
  go_wp2_with fail
  go_ret
  exact ⟨rfl, T4.bel⟩
theorem orders_long (r s t : Rec) (w : World) (h : 300 < r.name.size ∨ 300 < s.name.size ∨ 300 < t.name.size) :
    Calls Try.prog 4 #[.agg #[.string r.name, .int .i64 r.start, .int .i64 r.count, .int .i64 r.hi, .int .u64 r.lo, .int .i64 r.min, .int .i64 r.max], .agg #[.string s.name, .int .i64 s.start, .int .i64 s.count, .int .i64 s.hi, .int .u64 s.lo, .int .i64 s.min, .int .i64 s.max], .agg #[.string t.name, .int .i64 t.start, .int .i64 t.count, .int .i64 t.hi, .int .u64 t.lo, .int .i64 t.min, .int .i64 t.max]] w fun e w' => e = .returned (.bool true) ∧ Below w.heap.size w w' := by
  by_cases h1 : 300 < r.name.size
  · have T0 := Three.new w r s t 29
    go_enter Try.func4, Try.ntmps4
    go_wp2_with fail
    refine (alive_any _).mono ?_
    rintro e w1 ⟨rfl, hb⟩
    have T1 := T0.below hb
    go_wp2_with fail
    go_ret
    exact ⟨rfl, T1.bel⟩
  · by_cases h2 : 300 < s.name.size
    · have T0 := Three.new w r s t 29
      go_enter Try.func4, Try.ntmps4
      go_wp2_with fail
      refine (alive_any _).mono ?_
      rintro e w1 ⟨rfl, hb⟩
      have T1 := T0.below hb
      go_wp2_with fail
      go_ret
      exact ⟨rfl, T1.bel⟩
    · have h3 : 300 < t.name.size := by omega
      have T0 := Three.new w r s t 29
      clear h
      go_enter Try.func4, Try.ntmps4
      go_wp2_with fail
      refine (alive_any _).mono ?_
      rintro e w1 ⟨rfl, hb⟩
      have T1 := T0.below hb
      go_wp2_with fail
      go_ret
      exact ⟨rfl, T1.bel⟩
theorem walk_nameOrders {vr : Value} (r : Rec) (hr : Rec.Is vr r) {vs : Value} (s : Rec) (hs : Rec.Is vs s) {vt : Value} (t : Rec) (ht : Rec.Is vt t) (w : World) :
    Calls Try.prog 4 #[vr, vs, vt] w fun e w' => e = .returned (.bool true) ∧ Below w.heap.size w w' := by
  obtain ⟨rfl, _⟩ := hr
  obtain ⟨rfl, _⟩ := hs
  obtain ⟨rfl, _⟩ := ht
  by_cases hl : 300 < r.name.size ∨ 300 < s.name.size ∨ 300 < t.name.size
  · exact orders_long r s t w hl
  · have h1 : r.name.size ≤ 300 := by omega
    have h2 : s.name.size ≤ 300 := by omega
    have h3 : t.name.size ≤ 300 := by omega
    have e0 := aheadB_irrefl r.name.toList r.start
    cases hab : aheadB r.name.toList r.start s.name.toList s.start
    · cases hba : aheadB s.name.toList s.start r.name.toList r.start
      · obtain ⟨e1, e2⟩ := aheadB_total hab hba
        exact orders_d r s t w h1 h2 h3 e0 hab (by simp [e1]) (by simp [e2])
      · have hne : ¬(r.name.toList = s.name.toList ∧ r.start = s.start) := by
          rintro ⟨e1, e2⟩
          rw [e1, e2, aheadB_irrefl] at hba; cases hba
        by_cases hn : r.name.toList = s.name.toList
        · exact orders_c1 r s t w h1 h2 h3 e0 hab hba hn (fun hh => hne ⟨hn, hh⟩)
        · exact orders_c0 r s t w h1 h2 h3 e0 hab hba hn
    · have hba := aheadB_asymm hab
      have hne : ¬(r.name.toList = s.name.toList ∧ r.start = s.start) := by
        rintro ⟨e1, e2⟩
        rw [e1, e2, aheadB_irrefl] at hab; cases hab
      cases hbc : aheadB s.name.toList s.start t.name.toList t.start
      · by_cases hn : r.name.toList = s.name.toList
        · exact orders_b1 r s t w h1 h2 h3 e0 hab hba hbc hn (fun hh => hne ⟨hn, hh⟩)
        · exact orders_b0 r s t w h1 h2 h3 e0 hab hba hbc hn
      · have hac := aheadB_trans hab hbc
        by_cases hn : r.name.toList = s.name.toList
        · exact orders_a1 r s t w h1 h2 h3 e0 hab hba hbc hac hn (fun hh => hne ⟨hn, hh⟩)
        · exact orders_a0 r s t w h1 h2 h3 e0 hab hba hbc hac hn
end Go.Proofs.Ytcepghlfbhfdnaa
