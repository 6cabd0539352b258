/-
  LedgerCloses: its walk.
-/
import Derived.Test.YtopjmjobpkpmlaaAlive19
import Derived.Test.YtopjmjobpkpmlaaSameTexts19
namespace Go.Proofs.Ytopjmjobpkpmlaa
open Go.RowKit Go.Maps

theorem own_strs {w : World} {base : Nat} {v : Value} {n : Nat} {ss : List ByteArray} (h : w.ownsRow base 9 1 v n (ss.map Value.string)) (hs : ∀ s ∈ ss, s.size ≤ maxLen) (hl : n ≤ maxLen) :
    ∃ A c, v = .slice A n c ∧ Strs w A n ss := by
  have hn : ss.length = n := by have := h.1; simpa using this
  subst hn
  rcases h.2 with ⟨rfl, he⟩ | ⟨g, cap, cur, rfl, _, hg, _, _, _, _⟩
  · have h0 : ss = [] := by simpa using he
    subst h0
    exact ⟨none, 0, rfl, Sl.nil _ _, rfl, by decide, by simp⟩
  · exact ⟨some ⟨g, 0, none⟩, cap, rfl, ⟨fun _ => ⟨g, 0, rfl, lt_of_block hg, fun j u hu => by
      have hj : j < ss.length := by have := (List.getElem?_eq_some_iff.1 hu).1; simpa using this
      rw [Nat.zero_add, h.cellAt j (by omega)]; exact hu⟩⟩, rfl, hl, hs⟩
theorem says_self {ss : List ByteArray} {w w' : World} {e : Ending} (h : Says (decide (txt ss = txt ss)) w e w') : e = .returned (.bool true) ∧ Below w.heap.size w w' := by
  unfold Says at h
  rwa [decide_eq_true rfl] at h
theorem owner_names (xs : List Acc) : (xs.map fun a => Value.string ⟨a.name.toArray⟩) = ((view xs).map fun v => (⟨v.1.toArray⟩ : ByteArray)).map Value.string := by
  unfold view
  rw [List.map_map, List.map_map]; rfl
set_option maxRecDepth 100000 in
set_option maxHeartbeats 8000000 in
theorem walk_ledgerCloses (n : Int) (_ : (Lit.int .i64 n).wf = true) (a : Int) (_ : (Lit.int .i64 a).wf = true) (b : Int) (_ : (Lit.int .i64 b).wf = true) (d : Int) (_ : (Lit.int .i64 d).wf = true) (w : World) :
    Calls Try.prog 3 #[.int .i64 n, .int .i64 a, .int .i64 b, .int .i64 d] w fun e w' => e = .returned (.bool true) ∧ Below w.heap.size w w' := by
  by_cases g : 0 ≤ n ∧ n ≤ 60 ∧ 0 ≤ a ∧ 0 ≤ b ∧ a ≤ n ∧ b ≤ n - a ∧ 0 ≤ d ∧ d ≤ a
  rotate_left
  · by_cases g1 : n < 0
    · go_enter Try.func3, Try.ntmps3
      go_wp2_with (go_at_call 7; refine (alive_any _).mono ?_; rintro e w1 ⟨rfl, hb1⟩)
      go_ret
      exact ⟨rfl, hb1⟩
    by_cases g2 : 60 < n
    · go_enter Try.func3, Try.ntmps3
      go_wp2_with (go_at_call 7; refine (alive_any _).mono ?_; rintro e w1 ⟨rfl, hb1⟩)
      go_ret
      exact ⟨rfl, hb1⟩
    by_cases g3 : a < 0
    · go_enter Try.func3, Try.ntmps3
      go_wp2_with (go_at_call 7; refine (alive_any _).mono ?_; rintro e w1 ⟨rfl, hb1⟩)
      go_ret
      exact ⟨rfl, hb1⟩
    by_cases g4 : b < 0
    · go_enter Try.func3, Try.ntmps3
      go_wp2_with (go_at_call 7; refine (alive_any _).mono ?_; rintro e w1 ⟨rfl, hb1⟩)
      go_ret
      exact ⟨rfl, hb1⟩
    by_cases g5 : n < a
    · go_enter Try.func3, Try.ntmps3
      go_wp2_with (go_at_call 7; refine (alive_any _).mono ?_; rintro e w1 ⟨rfl, hb1⟩)
      go_ret
      exact ⟨rfl, hb1⟩
    by_cases g6 : n - a < b
    · go_enter Try.func3, Try.ntmps3
      go_wp2_with (go_at_call 7; refine (alive_any _).mono ?_; rintro e w1 ⟨rfl, hb1⟩)
      go_ret
      exact ⟨rfl, hb1⟩
    by_cases g7 : d < 0
    · go_enter Try.func3, Try.ntmps3
      go_wp2_with (go_at_call 7; refine (alive_any _).mono ?_; rintro e w1 ⟨rfl, hb1⟩)
      go_ret
      exact ⟨rfl, hb1⟩
    by_cases g8 : a < d
    · go_enter Try.func3, Try.ntmps3
      go_wp2_with (go_at_call 7; refine (alive_any _).mono ?_; rintro e w1 ⟨rfl, hb1⟩)
      go_ret
      exact ⟨rfl, hb1⟩
    exact absurd ⟨by omega, by omega, by omega, by omega, by omega, by omega, by omega, by omega⟩ g
  obtain ⟨g1, g2, g3, g4, g5, g6, g7, g8⟩ := g
  obtain ⟨O, hO⟩ : ∃ O, O = (freeIn 3 [] n.toNat).take d.toNat := ⟨_, rfl⟩
  have hrO : Rising O := by rw [hO]; exact List.Pairwise.sublist (List.take_sublist _ _) (rising_freeIn 3 [] _)
  have hDL := drawLaw (f := 3) (n := n) (us := []) (k := d) g1 List.Pairwise.nil (by simp) g7 (by simp; omega)
  rw [← hO] at hDL
  have hlO : (O.length : Int) = d := hDL.len
  obtain ⟨v1, hv1⟩ : ∃ v : List AV, v = [([97], a, [])] := ⟨_, rfl⟩
  obtain ⟨v2, hv2⟩ : ∃ v : List AV, v = [([97], a, []), ([98], b, [])] := ⟨_, rfl⟩
  obtain ⟨v3, hv3⟩ : ∃ v : List AV, v = [([97], a - d, O), ([98], b, [])] := ⟨_, rfl⟩
  obtain ⟨v4, hv4⟩ : ∃ v : List AV, v = [([98], b, [])] := ⟨_, rfl⟩
  have T1 := Lib.hid (show reserveV [] [97] a = v1 from by rw [hv1]; simp [reserveV, makeV, insV, setV, addV])
  have T2 := Lib.hid (show resErrV n [] [] ⟨#[97]⟩ a = 0 from by
    unfold resErrV openV
    rw [if_neg (fun h => h.elim (fun h => by omega) (fun h => h (by decide))), if_neg (by simp; omega)])
  have T3 := Lib.hid (show reserveV v1 [98] b = v2 from by rw [hv1, hv2]; simp [reserveV, makeV, insV, setV, addV, bytesBefore])
  have T4 := Lib.hid (show resErrV n [] v1 ⟨#[98]⟩ b = 0 from by
    rw [hv1]; unfold resErrV openV
    rw [if_neg (fun h => h.elim (fun h => by omega) (fun h => h (by decide))), if_neg (by simp; omega)])
  have T5 := Lib.hid (show drawErrV v2 [97] d = 0 from by
    rw [hv2]; unfold drawErrV findV
    rw [if_neg (by omega)]
    simp; omega)
  have T6 := Lib.hid (show insAll [] O = O from insAll_new hrO)
  have T7 := Lib.hid (show setV v2 [97] (drawV d O) = v3 from by rw [hv2, hv3]; simp [setV, drawV, insAll_new hrO])
  have T8 := Lib.hid (show heldV v3 [97] = O from by rw [hv3]; simp [heldV, findV])
  have T9 := Lib.hid (show closeV v3 [97] = v4 from by rw [hv3, hv4]; simp [closeV])
  have T10 := Lib.hid (show drawErrV v4 [97] 0 = 8 from by rw [hv4]; simp [drawErrV, findV])
  have T11 := Lib.hid (show leftV v4 [97] = 0 from by rw [hv4]; simp [leftV, findV])
  have T12 := Lib.hid (show heldV v4 [97] = [] from by rw [hv4]; simp [heldV, findV])
  have T13 := Lib.hid (show openV n [] v4 = n - b from by rw [hv4]; simp [openV])
  have T14 := Lib.hid (show (v4.map fun v => (⟨v.1.toArray⟩ : ByteArray)) = [⟨#[98]⟩] from by rw [hv4]; rfl)
  have T15 := Lib.hid (show v4.length = 1 from by rw [hv4]; rfl)
  have T16 := Lib.hid (show closeV v4 [97] = v4 from by rw [hv4]; simp [closeV])
  have HOD := Lib.hid hO
  have HLO := Lib.hid hlO
  have HDL := Lib.hid hDL
  clear hv1 hv2 hv3 hv4 hrO hO hlO hDL
  go_enter Try.func3, Try.ntmps3
  go_wp2_with fail
  refine (newL_any _ _ _ (by omega)).mono ?_
  rintro e w1 ⟨g, m, mm, f, k, rfl, h1, hb1, hf, hk⟩
  have hf' : f = 3 := by omega
  have hk' : k = n := by rw [hk, if_neg (by omega)]; omega
  subst hf' hk'
  clear hf hk
  obtain ⟨B, hB⟩ : ∃ B, B = w.heap.size := ⟨_, rfl⟩
  rw [← hB] at h1 hb1
  have hB1 : B ≤ w1.heap.size := by have := hb1.size; omega
  have HBW := Lib.hid hB
  clear hB
  go_wp2_with fail
  refine (reserve_any ⟨#[97]⟩ a w1 h1 (by decide) (by omega) hB1 (by decide)).mono ?_
  rintro e w2 ⟨ys2, rfl, h2, hv2, hl2, hb2⟩
  simp only [resErr_view, show view ([] : List Acc) = [] from rfl, T2.out, if_true, T1.out] at hv2 ⊢
  have hB2 : B ≤ w2.heap.size := Nat.le_trans hB1 hb2.size
  have hl2' : ys2.length < 1000000 := by simp at hl2; omega
  have HV2 := Lib.hid hv2
  clear hv2
  go_wp2_with fail
  refine (reserve_any ⟨#[98]⟩ b w2 h2 (by decide) (by omega) hB2 hl2').mono ?_
  rintro e w3 ⟨ys3, rfl, h3, hv3, hl3, hb3⟩
  simp only [resErr_view, HV2.out, T4.out, if_true, T3.out] at hv3 ⊢
  have HV3 := Lib.hid hv3
  have hB3 : B ≤ w3.heap.size := Nat.le_trans hB2 hb3.size
  clear hv3
  go_wp2_with fail
  refine (draw_any ⟨#[97]⟩ d w3 h3 (by decide) (by omega) hB3).mono ?_
  rintro e w4 ⟨x4, ys4, rfl, hown4, h4, hv4, hl4, hb4⟩
  simp only [drawErr_view, drawOut_view, HV3.out, T5.out, if_true, ← HOD.out, T6.out, T7.out] at hown4 h4 hv4 ⊢
  have HV4 := Lib.hid hv4
  have hB4 : B ≤ w4.heap.size := Nat.le_trans hB3 hb4.size
  obtain ⟨A4, c4, rfl, hi4⟩ := own_ints' hown4 (fun z hz => by have := HDL.out.fresh z hz; exact wf_small (by omega)) (by unfold maxLen; have := HLO.out; omega)
  clear hown4 hv4 hi4
  go_wp2_with fail
  refine (close_any ⟨#[97]⟩ w4 h4 (by decide) hB4).mono ?_
  rintro e w5 ⟨ys5, rfl, h5, hv5, hl5, hb5⟩
  simp only [held_view, HV4.out, T8.out, T9.out, lessU_self] at h5 hv5 ⊢
  have HV5 := Lib.hid hv5
  have hB5 : B ≤ w5.heap.size := Nat.le_trans hB4 hb5.size
  clear hv5
  go_wp2_with fail
  refine (draw_any ⟨#[97]⟩ 0 w5 h5 (by decide) (by omega) hB5).mono ?_
  rintro e w6 ⟨x6, ys6, rfl, hown6, h6, hv6, hl6, hb6⟩
  simp only [drawErr_view, drawOut_view, HV5.out, T10.out, show ¬ ((8 : Int) = 0) from by omega, if_false, insAll_nil] at hown6 h6 hv6 ⊢
  have HV6 := Lib.hid hv6
  have hB6 : B ≤ w6.heap.size := Nat.le_trans hB5 hb6.size
  obtain ⟨A6, c6, rfl, hi6⟩ := own_ints' hown6 (by simp) (by decide)
  clear hown6 hv6 hi6
  have hlen6 : ys6.length = 1 := by rw [← view_len, HV6.out, T15.out]
  have hdo : ((O.length : Int) == d) = true := beq_iff_eq.2 HLO.out
  go_wp2_with (first
    | (go_at_call 7; refine (alive_any _).mono ?_; rintro e w7 ⟨rfl, hb7⟩
       have h7 := h6.bel hb7)
    | (go_at_call 12; refine (left_any ⟨#[97]⟩ _ h7 (by decide)).mono ?_; rw [left_view, HV6.out, show (⟨#[97]⟩ : ByteArray).data.toList = [97] from rfl, T11.out]; rintro e w8 ⟨rfl, rfl⟩)
    | (go_at_call 13; refine (holds_any ⟨#[97]⟩ _ h7 (by decide)).mono ?_; rw [held_view, HV6.out, show (⟨#[97]⟩ : ByteArray).data.toList = [97] from rfl, T12.out]; rintro e w8 ⟨v8, rfl, hown8, hb8⟩
       obtain ⟨A8, c8, rfl, hi8⟩ := own_ints' hown8 (by simp) (by decide)
       have h8 := h7.bel hb8
       clear hown8 hi8)
    | (go_at_call 14; refine (open_any _ h8).mono ?_; rw [open_view, HV6.out, T13.out]; rintro e w9 ⟨rfl, hb9⟩
       have h9 := h8.bel hb9)
    | (go_at_call 16; refine (owners_any _ h9 (by rw [hlen6]; omega)).mono ?_; rw [owner_names, HV6.out, T14.out, hlen6]; rintro e w10 ⟨v10, rfl, hown10, hb10⟩
       obtain ⟨A10, c10, rfl, hs10⟩ := own_strs hown10 (by simp; decide) (by decide)
       have h10 := h9.bel hb10
       clear hown10)
    | (go_at_call 15; refine (sameTexts_any _ _ _ _ _ _ [⟨#[98]⟩] [⟨#[98]⟩] _ (hs10.alloc _) (Strs.new _ _ _ _ _ #[.string ⟨#[98]⟩] rfl rfl rfl (by decide) (by simp; decide))).mono ?_; intro e w11 hx; obtain ⟨rfl, hb11⟩ := says_self hx
       have hb11' := ((Below.refl w10.heap.size w10).alloc (Nat.le_refl _) (.cells #[.string ⟨#[98]⟩] 9)).trans (hb11.mono (by simp))
       have h11 := h10.bel hb11')
    | (go_at_call 11; refine (close_any ⟨#[97]⟩ _ h11 (by decide) (Nat.le_trans (Nat.le_trans (Nat.le_trans (Nat.le_trans (Nat.le_trans hB6 hb7.size) hb8.size) hb9.size) hb10.size) hb11'.size)).mono ?_; rintro e w12 ⟨ys12, rfl, h12, hv12, hl12, hb12⟩; rw [held_view, HV6.out, show (⟨#[97]⟩ : ByteArray).data.toList = [97] from rfl, T12.out]))
  go_ret
  refine ⟨rfl, ?_⟩
  rw [← HBW.out]
  have q1 := (((((hb1.trans hb2).trans hb3).trans hb4).trans hb5).trans hb6).trans (hb7.mono hB6)
  have hB7 := Nat.le_trans hB6 hb7.size
  have q2 := (q1.trans (hb8.mono hB7)).trans (hb9.mono (Nat.le_trans hB7 hb8.size))
  have hB9 := Nat.le_trans (Nat.le_trans hB7 hb8.size) hb9.size
  exact ((q2.trans (hb10.mono hB9)).trans (hb11'.mono (Nat.le_trans hB9 hb10.size))).trans hb12
end Go.Proofs.Ytopjmjobpkpmlaa
