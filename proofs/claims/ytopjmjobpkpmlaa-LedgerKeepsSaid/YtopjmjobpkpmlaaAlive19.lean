/-
  The first call of the statements of chapter 19: it answers true.
-/
import Derived.Test.YtopjmjobpkpmlaaLedgerView
namespace Go.Proofs.Ytopjmjobpkpmlaa
open Go.RowKit Go.Maps

theorem own_ints' {w : World} {base : Nat} {v : Value} {n : Nat} {zs : List Int} (h : w.ownsRow base 3 1 v n (zs.map (Value.int .i64))) (hs : ∀ z ∈ zs, (Lit.int .i64 z).wf = true) (hl : n ≤ maxLen) :
    ∃ A c, v = .slice A n c ∧ Ints w .i64 A n zs := by
  have hn : zs.length = n := by have := h.1; simpa using this
  subst hn
  exact own_ints h hs hl
theorem wf_small {z : Int} (h : -1000000 ≤ z ∧ z ≤ 1000000) : (Lit.int .i64 z).wf = true := wf_i64 (by omega)
set_option maxRecDepth 100000 in
set_option maxHeartbeats 4000000 in
theorem alive_any (w : World) : Calls Try.prog 7 #[] w fun e w' => e = .returned (.bool true) ∧ Below w.heap.size w w' := by
  obtain ⟨vA, hvA⟩ : ∃ v : List AV, v = [([97], 6, [])] := ⟨_, rfl⟩
  have T1 := Lib.hid (show reserveV [] [97] 6 = vA from by rw [hvA]; rfl)
  have T2 := Lib.hid (show resErrV 10 [] [] ⟨#[97]⟩ 6 = 0 from by decide)
  have T3 := Lib.hid (show resErrV 10 [] vA ⟨#[98]⟩ 5 = 20 from by rw [hvA]; decide)
  have T4 := Lib.hid (show drawErrV vA [97] 4 = 0 from by rw [hvA]; decide)
  have T5 := Lib.hid (show (freeIn 0 [] (10 : Int).toNat).take (4 : Int).toNat = [0, 1, 2, 3] from by decide)
  have T6 := Lib.hid (show insAll [] [0, 1, 2, 3] = [0, 1, 2, 3] from by decide)
  obtain ⟨vB, hvB⟩ : ∃ v : List AV, v = [([97], 2, [0, 1, 2, 3])] := ⟨_, rfl⟩
  have T7 := Lib.hid (show setV vA [97] (drawV 4 [0, 1, 2, 3]) = vB from by rw [hvA, hvB]; decide)
  have T8 := Lib.hid (show openV 10 [0, 1, 2, 3] vB = 4 from by rw [hvB]; decide)
  have T9 := Lib.hid (show leftV vB [97] = 2 from by rw [hvB]; decide)
  have T10 := Lib.hid (show heldV vB [97] = [0, 1, 2, 3] from by rw [hvB]; decide)
  clear hvA hvB
  go_enter Try.func7, Try.ntmps7
  go_wp2_with fail
  refine (newL_any _ _ _ (by omega)).mono ?_
  rintro e w1 ⟨g, m, mm, f, k, rfl, h1, hb1, hf, hk⟩
  have hf' : f = 0 := by omega
  have hk' : k = 10 := by rw [hk]; decide
  subst hf' hk'
  clear hf hk
  obtain ⟨B, hB⟩ : ∃ B, B = w.heap.size := ⟨_, rfl⟩
  rw [← hB] at h1 hb1
  have hB1 : B ≤ w1.heap.size := by have := hb1.size; omega
  have HBW := Lib.hid hB
  clear hB
  go_wp2_with fail
  refine (reserve_any ⟨#[97]⟩ 6 w1 h1 (by decide) (by omega) hB1 (by decide)).mono ?_
  rintro e w2 ⟨ys2, rfl, h2, hv2, hl2, hb2⟩
  rw [resErr_view, show view ([] : List Acc) = [] from rfl, T2.out] at hv2 ⊢
  rw [if_pos rfl, show (⟨#[97]⟩ : ByteArray).data.toList = [97] from rfl, T1.out] at hv2
  have hB2 : B ≤ w2.heap.size := Nat.le_trans hB1 hb2.size
  have hl2' : ys2.length < 1000000 := by simp at hl2; omega
  have HV2 := Lib.hid hv2
  clear hv2
  go_wp2_with fail
  refine (reserve_any ⟨#[98]⟩ 5 w2 h2 (by decide) (by omega) hB2 hl2').mono ?_
  rintro e w3 ⟨ys3, rfl, h3, hv3, hl3, hb3⟩
  rw [resErr_view, HV2.out, T3.out] at hv3 ⊢
  rw [if_neg (by decide)] at hv3
  have HV3 := Lib.hid hv3
  have hB3 : B ≤ w3.heap.size := Nat.le_trans hB2 hb3.size
  clear hv3
  go_wp2_with fail
  refine (draw_any ⟨#[97]⟩ 4 w3 h3 (by decide) (by omega) hB3).mono ?_
  rintro e w4 ⟨v4, ys4, rfl, hown4, h4, hv4, hl4, hb4⟩
  simp only [drawErr_view, drawOut_view, HV3.out, T4.out, if_true, T5.out, T6.out, T7.out] at hown4 h4 hv4 ⊢
  have HV4 := Lib.hid hv4
  obtain ⟨A, c, rfl, hi4⟩ := own_ints' hown4 (by intro z hz; simp at hz; exact wf_small (by omega)) (by decide)
  obtain ⟨b, off, rfl, _, hc⟩ := hi4.sl.at_ (by simp)
  have x0 := hc 0 (.int .i64 0) rfl
  rw [Nat.add_zero] at x0
  clear hv4 hc hown4 hi4
  go_wp2_with (first
    | (go_at_call 14; refine (open_any _ h4).mono ?_; rw [open_view, HV4.out, T8.out]; rintro e w5 ⟨rfl, hb5⟩
       have h5 := h4.bel hb5)
    | (go_at_call 12; refine (left_any ⟨#[97]⟩ _ h5 (by decide)).mono ?_; rw [left_view, HV4.out, show (⟨#[97]⟩ : ByteArray).data.toList = [97] from rfl, T9.out]; rintro e w6 ⟨rfl, rfl⟩)
    | (go_at_call 13; refine (holds_any ⟨#[97]⟩ _ h5 (by decide)).mono ?_; rw [held_view, HV4.out, show (⟨#[97]⟩ : ByteArray).data.toList = [97] from rfl, T10.out]; rintro e w7 ⟨v7, rfl, hown7, hb7⟩
       obtain ⟨A7, c7, rfl, hi7⟩ := own_ints' hown7 (by intro z hz; simp at hz; exact wf_small (by omega)) (by decide)
       have h7 := h5.bel hb7
       clear hown7 hi7)
    | (go_at_call 17; refine (free_any g m 0 10 _ _ h7.pool).mono ?_; rintro e w8 ⟨rfl, hb8⟩))
  go_ret
  refine ⟨rfl, ?_⟩
  rw [← HBW.out]
  have q4 := ((hb1.trans hb2).trans hb3).trans hb4
  have hB4 : B ≤ w4.heap.size := Nat.le_trans hB3 hb4.size
  exact ((q4.trans (hb5.mono hB4)).trans (hb7.mono (Nat.le_trans hB4 hb5.size))).trans (hb8.mono (Nat.le_trans (Nat.le_trans hB4 hb5.size) hb7.size))
end Go.Proofs.Ytopjmjobpkpmlaa
