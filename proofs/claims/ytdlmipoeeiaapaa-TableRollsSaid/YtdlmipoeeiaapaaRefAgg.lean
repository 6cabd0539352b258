/-
  The document's own Valid and Merge.
-/
import Derived.Test.YtdlmipoeeiaapaaTot
namespace Go.Proofs.Ytdlmipoeeiaapaa
open Go.RowKit

set_option maxHeartbeats 1000000 in
theorem refValid_any (a : Ag) (w : World) : Calls Try.prog 39 #[a.val] w fun e w' => e = .returned (.bool (validG a)) ∧ w' = w.alloc (.cells #[.int .i64 a.c, .int .i64 a.hi, .int .u64 a.lo, .int .i64 a.mn, .int .i64 a.mx] 32) := by
  by_cases h1 : 1 ≤ a.c
  · by_cases h2 : a.c ≤ 4611686018427387904
    · have HF := Lib.hid (show validG a = decide (a.mn ≤ a.mx) from by unfold validG; simp [h1, h2])
      go_enter Try.func39, Try.ntmps39
      go_wp2
      go_ret
      exact ⟨ret_bool HF.out.symm, rfl⟩
    · have HF := Lib.hid (show validG a = false from by unfold validG; simp [h2])
      have hd : decide (a.c ≤ 4611686018427387904) = false := decide_eq_false h2
      go_enter Try.func39, Try.ntmps39
      go_wp2
      go_ret
      exact ⟨ret_bool HF.out.symm, rfl⟩
  · have HF := Lib.hid (show validG a = false from by unfold validG; simp [h1])
    have hd : decide (1 ≤ a.c) = false := decide_eq_false h1
    go_enter Try.func39, Try.ntmps39
    go_wp2
    go_ret
    exact ⟨ret_bool HF.out.symm, rfl⟩
theorem ref_hi (x y la lb : Int) (ha : 0 ≤ la ∧ la ≤ 18446744073709551615) (hb : 0 ≤ lb ∧ lb ≤ 18446744073709551615) :
    IntKind.i64.wrap ((IntKind.u64.wrap x + IntKind.u64.wrap y + (la + lb) / 18446744073709551616) % 18446744073709551616) = if IntKind.u64.wrap (la + lb) < la then wrap64 (wrap64 (x + y) + 1) else wrap64 (x + y) := by
  unfold wrap64
  simp only [IntKind.wrap_i64, wrapU]
  split <;> omega
theorem ref_eq {a b : Ag} (ha : a.V) (hb : b.V) : bothG a b = ⟨if a.c ≤ 4611686018427387904 - b.c then a.c + b.c else 4611686018427387904, if IntKind.u64.wrap (a.lo + b.lo) < a.lo then wrap64 (wrap64 (a.hi + b.hi) + 1) else wrap64 (a.hi + b.hi), IntKind.u64.wrap (a.lo + b.lo), min a.mn b.mn, max a.mx b.mx⟩ := by
  have h1 := ha.cnt
  rw [← ref_hi _ _ _ _ ha.ok.lo hb.ok.lo, wrapU (a.lo + b.lo)]
  unfold bothG
  rw [if_neg (by omega)]
  congr 1
  split <;> split <;> omega
set_option maxRecDepth 100000 in
set_option maxHeartbeats 4000000 in
theorem refMerge_z (b : Ag) (hb : b.V) (w : World) : Calls Try.prog 18 #[Ag.zero.val, b.val] w fun e w' => e = .returned b.val ∧ Below w.heap.size w w' := by
  have va : validG Ag.zero = false := by decide
  have vb := hb.v
  clear hb
  go_enter Try.func18, Try.ntmps18
  go_wp2_with (first
    | (go_at_call 39; ((with_reducible refine (refValid_any Ag.zero _).mono ?_); rintro e wq ⟨rfl, rfl⟩))
    | (go_at_call 39; ((with_reducible refine (refValid_any b _).mono ?_); rintro e wq ⟨rfl, rfl⟩)))
  exact bodyPost_ret (v := b.val) (by simp [results, Try.results18, go_sem]) rfl ⟨rfl, by repeat (first | exact Below.refl _ _ | refine Below.setCell ?_ (by simp; try omega) _ | refine Below.alloc ?_ (by simp; try omega) _)⟩
set_option maxRecDepth 100000 in
set_option maxHeartbeats 4000000 in
theorem refMerge_V (a b : Ag) (ha : a.V) (hb : b.V) (w : World) : Calls Try.prog 18 #[a.val, b.val] w fun e w' => e = .returned (bothG a b).val ∧ Below w.heap.size w w' := by
  have va := ha.v
  have vb := hb.v
  have na := ha.cnt
  have nb := hb.cnt
  obtain ⟨a1, a2, a3⟩ := na
  obtain ⟨b1, b2, b3⟩ := nb
  have HE := Lib.hid (ref_eq ha hb)
  clear ha hb
  go_enter Try.func18, Try.ntmps18
  go_wp2_with (first
    | (go_at_call 39; ((with_reducible refine (refValid_any a _).mono ?_); rintro e wq ⟨rfl, rfl⟩))
    | (go_at_call 39; ((with_reducible refine (refValid_any b _).mono ?_); rintro e wq ⟨rfl, rfl⟩)))
  · have h1 : a.c ≤ 4611686018427387904 - b.c := by assumption
    have h2 : IntKind.u64.wrap (a.lo + b.lo) < a.lo := by assumption
    have he := HE.out
    rw [if_pos h1, if_pos h2] at he
    exact bodyPost_ret (v := (bothG a b).val) (by rw [he]; simp [results, Try.results18, go_sem]) rfl ⟨rfl, by repeat (first | exact Below.refl _ _ | refine Below.setCell ?_ (by simp; try omega) _ | refine Below.alloc ?_ (by simp; try omega) _)⟩
  · have h1 : a.c ≤ 4611686018427387904 - b.c := by assumption
    have h2 : ¬ IntKind.u64.wrap (a.lo + b.lo) < a.lo := Int.not_lt.2 (by assumption)
    have he := HE.out
    rw [if_pos h1, if_neg h2] at he
    exact bodyPost_ret (v := (bothG a b).val) (by rw [he]; simp [results, Try.results18, go_sem]) rfl ⟨rfl, by repeat (first | exact Below.refl _ _ | refine Below.setCell ?_ (by simp; try omega) _ | refine Below.alloc ?_ (by simp; try omega) _)⟩
  · have h1 : ¬ a.c ≤ 4611686018427387904 - b.c := Int.not_le.2 (by assumption)
    have h2 : IntKind.u64.wrap (a.lo + b.lo) < a.lo := by assumption
    have he := HE.out
    rw [if_neg h1, if_pos h2] at he
    exact bodyPost_ret (v := (bothG a b).val) (by rw [he]; simp [results, Try.results18, go_sem]) rfl ⟨rfl, by repeat (first | exact Below.refl _ _ | refine Below.setCell ?_ (by simp; try omega) _ | refine Below.alloc ?_ (by simp; try omega) _)⟩
  · have h1 : ¬ a.c ≤ 4611686018427387904 - b.c := Int.not_le.2 (by assumption)
    have h2 : ¬ IntKind.u64.wrap (a.lo + b.lo) < a.lo := Int.not_lt.2 (by assumption)
    have he := HE.out
    rw [if_neg h1, if_neg h2] at he
    exact bodyPost_ret (v := (bothG a b).val) (by rw [he]; simp [results, Try.results18, go_sem]) rfl ⟨rfl, by repeat (first | exact Below.refl _ _ | refine Below.setCell ?_ (by simp; try omega) _ | refine Below.alloc ?_ (by simp; try omega) _)⟩
theorem refMerge_any (a b : Ag) (ha : a.Good) (hb : b.V) (w : World) : Calls Try.prog 18 #[a.val, b.val] w fun e w' => e = .returned (plus a b).val ∧ Below w.heap.size w w' := by
  rw [plus_V hb]
  rcases ha with rfl | ha
  · rw [both_zero]; exact refMerge_z b hb w
  · exact refMerge_V a b ha hb w
end Go.Proofs.Ytdlmipoeeiaapaa
