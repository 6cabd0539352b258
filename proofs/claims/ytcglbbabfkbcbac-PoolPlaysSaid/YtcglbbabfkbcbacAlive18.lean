/-
  The first call of the statements of chapter 18: it answers true.
-/
import Derived.Test.YtcglbbabfkbcbacPoolGive
namespace Go.Proofs.Ytcglbbabfkbcbac
open Go.RowKit Go.Maps

theorem own_ints' {w : World} {base : Nat} {v : Value} {n : Nat} {zs : List Int} (h : w.ownsRow base 3 1 v n (zs.map (Value.int .i64))) (hs : ∀ z ∈ zs, (Lit.int .i64 z).wf = true) (hl : n ≤ maxLen) :
    ∃ A c, v = .slice A n c ∧ Ints w .i64 A n zs := by
  have hn : zs.length = n := by have := h.1; simpa using this
  subst hn
  exact own_ints h hs hl
theorem ints_grown {w w' : World} {k : IntKind} {A : Option Addr} {n : Nat} {zs : List Int} {g m : Nat} {f q : Int} {us : List Int} (h : Ints w k A n zs) (hp : PoolAt w g m f q us) (hg : w.grownBy w' (some m)) : Ints w' k A n zs := ints_keep h hg hp.set.nocell
theorem wf_small {z : Int} (h : -1000000 ≤ z ∧ z ≤ 1000000) : (Lit.int .i64 z).wf = true := wf_i64 (by omega)
set_option maxRecDepth 100000 in
set_option maxHeartbeats 2000000 in
theorem alive_any (w : World) : Calls Try.prog 5 #[] w fun e w' => e = .returned (.bool true) ∧ Below w.heap.size w w' := by
  have t1 : takeOut 5 3 [] 2 = ([5, 6], 0) := by decide
  have t2 : insAll [] [5, 6] = [5, 6] := by decide
  have t3 : giveAll [5, 6] [5] = ([6], 1) := by decide
  have t4 : takeOut 5 3 [6] 2 = ([5, 7], 0) := by decide
  have t5 : insAll [6] [5, 7] = [5, 6, 7] := by decide
  have T1 := Lib.hid t1
  have T2 := Lib.hid t2
  have T3 := Lib.hid t3
  have T4 := Lib.hid t4
  have T5 := Lib.hid t5
  clear t1 t2 t3 t4 t5
  go_enter Try.func5, Try.ntmps5
  go_wp2_with fail
  refine (new_any _ _ _ (by omega)).mono ?_
  rintro e w1 ⟨g, m, f, k, rfl, hp1, hb1, hg, hm, hf, hk⟩
  have hf' : f = 5 := by omega
  have hk' : k = 3 := by rw [hk]; decide
  subst hf' hk'
  clear hf hk
  go_wp2_with fail
  refine (take_any g m 5 3 [] 2 w1 hp1 (by omega)).mono ?_
  rintro e w2 ⟨v, rfl, hown, hp2, hg2⟩
  rw [T1.out] at hown hp2
  rw [T1.out]
  simp only [T2.out] at hp2
  obtain ⟨A, c, rfl, hi2⟩ := own_ints' hown (by intro z hz; simp at hz; exact wf_small (by omega)) (by decide)
  go_wp2_with fail
  refine (give_any g m 5 3 [5, 6] _ 1 _ [5] _ (hp2.below ((Below.refl _ _).alloc (Nat.le_refl _) _)) (Ints.new _ _ _ _ _ _ _ rfl rfl rfl (by decide) (by intro z hz; simp at hz; exact wf_small (by omega)))).mono ?_
  rintro e w3 ⟨rfl, hp3, hg3⟩
  rw [T3.out] at hp3
  rw [T3.out]
  have hi3 := ints_grown (hi2.alloc _) (hp2.below ((Below.refl _ _).alloc (Nat.le_refl _) _)) hg3
  go_wp2_with fail
  refine (take_any g m 5 3 [6] 2 w3 hp3 (by omega)).mono ?_
  rintro e w4 ⟨v, rfl, hown4, hp4, hg4⟩
  rw [T4.out] at hown4 hp4
  rw [T4.out]
  simp only [T5.out] at hp4
  have hi4 := ints_grown hi3 hp3 hg4
  obtain ⟨A2, c2, rfl, hj4⟩ := own_ints' hown4 (by intro z hz; simp at hz; exact wf_small (by omega)) (by decide)
  obtain ⟨b, off, rfl, _, hc⟩ := hi4.sl.at_ (by simp)
  obtain ⟨b2, off2, rfl, _, hd⟩ := hj4.sl.at_ (by simp)
  have x0 := hc 0 (.int .i64 5) rfl
  have x1 := hc 1 (.int .i64 6) rfl
  have x2 := hd 0 (.int .i64 5) rfl
  have x3 := hd 1 (.int .i64 7) rfl
  rw [Nat.add_zero] at x0 x2
  clear hc hd hi2 hi3 hi4 hj4 hown hown4
  go_wp2_with fail
  refine (free_any g m 5 3 _ _ hp4).mono ?_
  rintro e w5 ⟨rfl, hb5⟩
  go_wp2_with fail
  go_ret
  refine ⟨rfl, ?_⟩
  have q1 : Below w.heap.size w w2 := hb1.grown hg2 hb1.size (fun k hk => by cases hk; exact hm)
  have q2 := (q1.alloc q1.size (.cells #[.int .i64 5] 3)).grown hg3 (by have := q1.size; simp; omega) (fun k hk => by cases hk; exact hm)
  have q3 := q2.grown hg4 q2.size (fun k hk => by cases hk; exact hm)
  exact q3.trans (hb5.mono q3.size)
end Go.Proofs.Ytcglbbabfkbcbac
