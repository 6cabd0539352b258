/-
  LedgerMoves: its walk.
-/
import Derived.Test.YtopjmjobpkpmlaaAlive19
namespace Go.Proofs.Ytopjmjobpkpmlaa
open Go.RowKit Go.Maps

theorem mem_take_next (ts : List Int) (x : Int) (k : Nat) (h : k < ts.length) : decide (x ∈ ts.take (k + 1)) = (decide (x ∈ ts.take k) || (ts[k] == x)) := by
  rw [List.take_succ_eq_append_getElem h, Bool.eq_iff_iff, decide_eq_true_iff, Bool.or_eq_true, decide_eq_true_iff, beq_iff_eq, List.mem_append, List.mem_singleton]
  exact or_congr Iff.rfl eq_comm
theorem len_more {O : List Int} (h : O.Nodup) : (insAll [] O).length = O.length := by
  rw [length_insAll h (by simp)]; simp
set_option maxRecDepth 100000 in
set_option maxHeartbeats 8000000 in
theorem walk_ledgerMoves (n : Int) (_ : (Lit.int .i64 n).wf = true) (k : Int) (_ : (Lit.int .i64 k).wf = true) (A : Option Addr) (len cap : Nat) (zs : List Int) (w : World) (hz : Ints w .i64 A len zs) :
    Calls Try.prog 4 #[.int .i64 n, .int .i64 k, .slice A len cap] w fun e w' => e = .returned (.bool true) ∧ Below w.heap.size w w' := by
  have hl := hz.n_le
  unfold maxLen at hl
  by_cases g : 1 ≤ n ∧ n ≤ 60 ∧ 0 ≤ k ∧ k ≤ n ∧ len ≤ 60
  rotate_left
  · by_cases g1 : n < 1
    · go_enter Try.func4, Try.ntmps4
      go_wp2_with (go_at_call 7; refine (alive_any _).mono ?_; rintro e w1 ⟨rfl, hb1⟩)
      go_ret
      exact ⟨rfl, hb1⟩
    by_cases g2 : 60 < n
    · go_enter Try.func4, Try.ntmps4
      go_wp2_with (go_at_call 7; refine (alive_any _).mono ?_; rintro e w1 ⟨rfl, hb1⟩)
      go_ret
      exact ⟨rfl, hb1⟩
    by_cases g3 : k < 0
    · go_enter Try.func4, Try.ntmps4
      go_wp2_with (go_at_call 7; refine (alive_any _).mono ?_; rintro e w1 ⟨rfl, hb1⟩)
      go_ret
      exact ⟨rfl, hb1⟩
    by_cases g4 : n < k
    · go_enter Try.func4, Try.ntmps4
      go_wp2_with (go_at_call 7; refine (alive_any _).mono ?_; rintro e w1 ⟨rfl, hb1⟩)
      go_ret
      exact ⟨rfl, hb1⟩
    by_cases g5 : 60 < len
    · go_enter Try.func4, Try.ntmps4
      go_wp2_with (go_at_call 7; refine (alive_any _).mono ?_; rintro e w1 ⟨rfl, hb1⟩)
      go_ret
      exact ⟨rfl, hb1⟩
    exact absurd ⟨by omega, by omega, by omega, by omega, by omega⟩ g
  obtain ⟨g1, g2, g3, g4, g5⟩ := g
  obtain ⟨O, hO⟩ : ∃ O, O = (freeIn 0 [] n.toNat).take k.toNat := ⟨_, rfl⟩
  have hrO : Rising O := by rw [hO]; exact List.Pairwise.sublist (List.take_sublist _ _) (rising_freeIn 0 [] _)
  have hDL := drawLaw (f := 0) (n := n) (us := []) (k := k) (by omega) List.Pairwise.nil (by simp) g3 (by simp; omega)
  rw [← hO] at hDL
  have hlO : (O.length : Int) = k := hDL.len
  have OL := outLaw O zs
  obtain ⟨M, hM⟩ : ∃ M, M = (outAll O zs).2 := ⟨_, rfl⟩
  have hMn : M.Nodup := by rw [hM]; exact OL.nodup
  have hMs : ∀ z ∈ M, z ∈ O ∧ z ∈ zs := fun z hz => OL.sub z (by rw [← hM]; exact hz)
  have hlM : (lessU O M).length + M.length = O.length := lessU_len hrO.nodup hMn (fun z hz => (hMs z hz).1)
  obtain ⟨v1, hv1⟩ : ∃ v : List AV, v = [([97], k, [])] := ⟨_, rfl⟩
  obtain ⟨v3, hv3⟩ : ∃ v : List AV, v = [([97], 0, O)] := ⟨_, rfl⟩
  obtain ⟨Y, hY⟩ : ∃ Y, Y = insAll [] M := ⟨_, rfl⟩
  have hYl : Y.length = M.length := by rw [hY]; exact len_more hMn
  have hYm : ∀ z ∈ Y, z ∈ zs ∧ z ∈ O := fun z hz => by rw [hY] at hz; rcases mem_insAll.1 hz with h | h; simp at h; exact ⟨(hMs z h).2, (hMs z h).1⟩
  have hYM : ∀ z, z ∈ Y ↔ z ∈ M := fun z => by rw [hY, mem_insAll]; simp
  obtain ⟨v4, hv4⟩ : ∃ v : List AV, v = moveV v3 [97] [98] M := ⟨_, rfl⟩
  have hv4' : heldV v4 [97] = lessU O M ∧ heldV v4 [98] = Y ∧ (v4.map fun v => v.2.1).sum = 0 ∧ leftV v4 [97] = 0 ∧ leftV v4 [98] = 0 := by
    rw [hv4, hv3, hY]
    unfold moveV
    by_cases he : M = []
    · rw [if_pos he, he]
      refine ⟨?_, ?_, ?_, ?_, ?_⟩ <;> simp [heldV, leftV, findV, lessU, insAll]
      exact (List.filter_eq_self.2 (by simp)).symm
    · rw [if_neg he]
      refine ⟨?_, ?_, ?_, ?_, ?_⟩ <;> simp [heldV, leftV, findV, setV, makeV, insV, lessV, moreV, bytesBefore]
  obtain ⟨q1, q2, q3, q4, q5⟩ := hv4'
  have T1 := Lib.hid (show reserveV [] [97] k = v1 from by rw [hv1]; simp [reserveV, makeV, insV, setV, addV])
  have T2 := Lib.hid (show resErrV n [] [] ⟨#[97]⟩ k = 0 from by
    unfold resErrV openV
    rw [if_neg (fun h => h.elim (fun h => by omega) (fun h => h (by decide))), if_neg (by simp; omega)])
  have T3 := Lib.hid (show drawErrV v1 [97] k = 0 from by
    rw [hv1]; unfold drawErrV findV
    rw [if_neg (by omega)]
    simp)
  have T4 := Lib.hid (show insAll [] O = O from insAll_new hrO)
  have T5 := Lib.hid (show setV v1 [97] (drawV k O) = v3 from by rw [hv1, hv3]; simp [setV, drawV, insAll_new hrO])
  have T6 := Lib.hid (show moveOutV v3 [97] ⟨#[98]⟩ zs = M from by
    rw [hv3, hM]; unfold moveOutV findV
    simp
    intro h; exact absurd h (by decide))
  have T7 := Lib.hid (show openV n O v3 = n - k from by rw [hv3]; unfold openV; simp; omega)
  have T8 := Lib.hid (show openV n O v4 = n - k from by unfold openV; rw [q3]; omega)
  have Q1 := Lib.hid q1
  have Q2 := Lib.hid q2
  have Q4 := Lib.hid q4
  have Q5 := Lib.hid q5
  have T9 := Lib.hid (show moveV v3 [97] [98] M = v4 from hv4.symm)
  have T10 := Lib.hid (show ((lessU O Y).length : Int) + M.length = k from by
    have : lessU O Y = lessU O M := by unfold lessU; apply List.filter_congr; intro x _; simp [hYM x]
    rw [this]; omega)
  have HOD := Lib.hid hO
  have HLO := Lib.hid hlO
  have HDL := Lib.hid hDL
  have HYm := Lib.hid hYm
  have HYl := Lib.hid hYl
  have HlM := Lib.hid hlM
  have HL := Lib.hid hz.len
  have hOl : O.length ≤ 60 := by omega
  have hMl : M.length ≤ 60 := by omega
  clear hv1 hv3 hrO hO hlO hDL OL hM hMn hMs hlM hY hYl hYm hYM hv4 q1 q2 q3 q4 q5
  go_enter Try.func4, Try.ntmps4
  go_wp2_with fail
  refine (newL_any _ _ _ (by omega)).mono ?_
  rintro e w1 ⟨g, m, mm, f, k', rfl, h1, hb1, hf, hk⟩
  have hf' : f = 0 := by omega
  have hk' : n = k' := by rw [hk, if_neg (by omega)]; omega
  subst hf' hk'
  clear hf hk
  obtain ⟨B, hB⟩ : ∃ B, B = w.heap.size := ⟨_, rfl⟩
  rw [← hB] at h1 hb1
  have hB1 : B ≤ w1.heap.size := by have := hb1.size; omega
  have HBW := Lib.hid hB
  clear hB
  go_wp2_with fail
  refine (reserve_any ⟨#[97]⟩ k w1 h1 (by decide) (by omega) hB1 (by decide)).mono ?_
  rintro e w2 ⟨ys2, rfl, h2, hv2, hl2, hb2⟩
  simp only [resErr_view, show view ([] : List Acc) = [] from rfl, T2.out, if_true, T1.out] at hv2 ⊢
  have hB2 : B ≤ w2.heap.size := Nat.le_trans hB1 hb2.size
  have hl2' : ys2.length < 1000000 := by simp at hl2; omega
  have HV2 := Lib.hid hv2
  clear hv2
  go_wp2_with fail
  refine (draw_any ⟨#[97]⟩ k w2 h2 (by decide) (by omega) hB2).mono ?_
  rintro e w4 ⟨x4, ys4, rfl, hown4, h4, hv4, hl4, hb4⟩
  simp only [drawErr_view, drawOut_view, HV2.out, T3.out, if_true, ← HOD.out, T4.out, T5.out] at hown4 h4 hv4 ⊢
  have HV4 := Lib.hid hv4
  have hB4 : B ≤ w4.heap.size := Nat.le_trans hB2 hb4.size
  have hl4' : ys4.length < 1000000 := by omega
  obtain ⟨A4, c4, rfl, hi4⟩ := own_ints' hown4 (fun z hz => by have := HDL.out.fresh z hz; exact wf_small (by omega)) (by unfold maxLen; omega)
  clear hown4 hv4 hi4
  have hkO : ((O.length : Int) == k) = true := beq_iff_eq.2 HLO.out
  have hbw4 : Below B w w4 := (hb1.trans hb2).trans hb4
  have hz4 := hz.below (by rw [← HBW.out]; exact hbw4)
  have HFr := Lib.hid (show n - (O.length : Int) = n - k from by have := HLO.out; omega)
  go_wp2_with (first
    | (go_at_call 17; refine (free_any g m 0 n _ _ h4.pool).mono ?_; rw [HFr.out]; rintro e w5 ⟨rfl, hb5⟩
       have h5 := h4.bel hb5)
    | (go_at_call 14; refine (open_any _ h5).mono ?_; rw [open_view, HV4.out, T7.out]; rintro e w6 ⟨rfl, hb6⟩
       have h6 := h5.bel hb6
       have hz6 := (hz4.below hb5).below hb6
       have hB6 : B ≤ w6.heap.size := Nat.le_trans (Nat.le_trans hB4 hb5.size) hb6.size)
    | (go_at_call 18; refine (move_any ⟨#[97]⟩ ⟨#[98]⟩ A len cap zs _ h6 (by decide) (by decide) hz6 (by omega) hB6 hl4').mono ?_; rintro e w7 ⟨ys7, rfl, h7, hv7, hl7, hb7⟩
       simp only [moveOut_view, HV4.out, T6.out, T9.out] at hv7 ⊢
       have HV7 := Lib.hid hv7
       have hB7 : B ≤ w7.heap.size := Nat.le_trans hB6 hb7.size
       clear hv7)
    | (go_at_call_of 13 (Value.string (⟨#[97]⟩ : ByteArray)); refine (holds_any ⟨#[97]⟩ _ h7 (by decide)).mono ?_; rw [held_view, HV7.out, show (⟨#[97]⟩ : ByteArray).data.toList = [97] from rfl, Q1.out]; rintro e w8 ⟨v8, rfl, hown8, hb8⟩
       obtain ⟨A8, c8, rfl, hi8⟩ := own_ints' hown8 (fun z hz => by have := HDL.out.fresh z (List.mem_filter.1 hz).1; exact wf_small (by omega)) (by have := HlM.out; unfold maxLen; omega)
       have h8 := h7.bel hb8
       clear hown8 hi8)
    | (go_at_call_of 13 (Value.string (⟨#[98]⟩ : ByteArray)); refine (holds_any ⟨#[98]⟩ _ h8 (by decide)).mono ?_; rw [held_view, HV7.out, show (⟨#[98]⟩ : ByteArray).data.toList = [98] from rfl, Q2.out]; rintro e w9 ⟨v9, rfl, hown9, hb9⟩
       obtain ⟨A9, c9, rfl, hi9⟩ := own_ints' hown9 (fun z hz => by have := HDL.out.fresh z (HYm.out z hz).2; exact wf_small (by omega)) (by have := HYl.out; unfold maxLen; omega)
       have h9 := h8.bel hb9
       clear hown9))
  have hbw9 : Below B w w9 := (((((hbw4.trans (hb5.mono hB4)).trans (hb6.mono (Nat.le_trans hB4 hb5.size))).trans hb7).trans (hb8.mono hB7)).trans (hb9.mono (Nat.le_trans hB7 hb8.size)))
  have hB9 : B ≤ w9.heap.size := Nat.le_trans (Nat.le_trans hB7 hb8.size) hb9.size
  have hz9 := hz.below (by rw [← HBW.out]; exact hbw9)
  have hYl := HYl.out
  obtain ⟨p, hp⟩ : ∃ p, p = Y.length := ⟨_, rfl⟩
  rw [← hp] at hi9 hYl ⊢
  have HP := Lib.hid hp
  have HYp := Lib.hid hYl
  have hp60 : p ≤ 60 := by omega
  clear hp hYl hz4 hz6 h1 h2 h4 h5 h6 h7 h8 hb1 hb2 hb4 hb5 hb6 hb7 hb8 hb9
  go_loopw [15] (fun i wr => ∃ j : Nat, j ≤ p ∧ i = .int .i64 j ∧ Below w9.heap.size w9 wr) (fun i _ => p - (intOf i).toNat)
  case atStart => exact ⟨0, Nat.zero_le _, rfl, Below.refl _ _⟩
  case round =>
    obtain ⟨j, hj, rfl, hbr⟩ := hrel
    by_cases hlt : j < p
    · have KY : j < Y.length := by rw [← HP.out]; exact hlt
      have HTH := Lib.hid (decide_eq_true (HYm.out _ (List.getElem_mem KY)).1)
      go_wp2
      obtain ⟨w10, hw10⟩ : ∃ w10, w10 = wr := ⟨_, rfl⟩
      subst hw10
      go_loopw [16, 17] (fun th i wr => ∃ q : Nat, q ≤ len ∧ i = .int .i64 q ∧ th = .bool (decide (Y[j] ∈ zs.take q)) ∧ Below w10.heap.size w10 wr) (fun _ i _ => len - (intOf i).toNat)
      case atStart => exact ⟨0, Nat.zero_le _, rfl, rfl, Below.refl _ _⟩
      case round =>
        obtain ⟨q, hq, rfl, rfl, hb4⟩ := hrel
        have hb5 := hbr.trans (hb4.mono hbr.size)
        by_cases hqm : q < len
        · have K2 : q < zs.length := by rw [HL.out]; exact hqm
          obtain ⟨b, off, rfl, hb, hc⟩ := (hz9.below hb5).get K2
          obtain ⟨b2, off2, rfl, hb2, hc2⟩ := (hi9.below hb5).get KY
          have HX := Lib.hid (mem_take_next zs Y[j] q K2)
          have g0 : (0 : Int) ≤ (q : Int) := by omega
          have g1' : (q : Int) < (len : Int) := by omega
          have g2' : (0 : Int) ≤ (j : Int) := by omega
          have g3' : (j : Int) < (p : Int) := by omega
          cases hth : decide (Y[j] ∈ zs.take q)
          · rw [hth] at HX
            clear hth
            go_wp2
            go_quiet (fail)
            go_wp2
            go_roundw
            case rel => exact ⟨q + 1, by omega, by go_num, by rw [HX.out]; rfl, below_drewN hb4 _⟩
            case measure => simp [intOf]; omega
          · rw [hth] at HX
            clear hth
            go_wp2
            go_quiet (fail)
            go_wp2
            go_roundw
            case rel => exact ⟨q + 1, by omega, by go_num, by rw [HX.out]; rfl, below_drewN hb4 _⟩
            case measure => simp [intOf]; omega
        · have hqe : q = len := by omega
          subst hqe
          rw [List.take_of_length_le (by rw [HL.out]; omega), HTH.out]
          go_wp2
          go_roundw
          case rel => exact ⟨j + 1, by omega, by go_num, hb5⟩
          case measure => simp [intOf]; omega
    · have hd2 : decide ((j : Int) < (p : Int)) = false := decide_eq_false (by omega)
      have hr1 := h9.bel hbr
      have hlo : (lessU O M).length ≤ 60 := by have := HlM.out; omega
      have e1 : (((lessU O M).length : Int) + (p : Int) == k) = true := beq_iff_eq.2 (by have := HlM.out; have := HLO.out; have := HYp.out; omega)
      have e2 : ((M.length : Int) == (p : Int)) = true := beq_iff_eq.2 (by have := HYp.out; omega)
      have e2' : ((p : Int) == (M.length : Int)) = true := beq_iff_eq.2 (by have := HYp.out; omega)
      have hlo2 : (lessU O Y).length ≤ 60 := by have := T10.out; omega
      have e3 : (n - ((lessU O Y).length : Int) == n - k + (M.length : Int)) = true := beq_iff_eq.2 (by have := T10.out; omega)
      have hBr : B ≤ wr.heap.size := Nat.le_trans hB9 hbr.size
      go_wp2_with (first
        | (go_at_call 7; refine (alive_any _).mono ?_; rintro e w11 ⟨rfl, hb11⟩
           have h11 := hr1.bel hb11
           have tok1 : True := trivial)
        | (go_at_call 17; have _t := tok1; refine (free_any g m 0 n _ _ h11.pool).mono ?_; rw [HFr.out]; rintro e w12 ⟨rfl, hb12⟩
           have h12 := h11.bel hb12
           clear tok1)
        | (go_at_call 14; refine (open_any _ h12).mono ?_; rw [open_view, HV7.out, T8.out]; rintro e w13 ⟨rfl, hb13⟩
           have h13 := h12.bel hb13
           have hB13 : B ≤ w13.heap.size := Nat.le_trans (Nat.le_trans (Nat.le_trans hBr hb11.size) hb12.size) hb13.size)
        | (go_at_call_of 12 (Value.string (⟨#[97]⟩ : ByteArray)); refine (left_any ⟨#[97]⟩ _ h13 (by decide)).mono ?_; rw [left_view, HV7.out, show (⟨#[97]⟩ : ByteArray).data.toList = [97] from rfl, Q4.out]; rintro e w14 ⟨rfl, rfl⟩)
        | (go_at_call_of 12 (Value.string (⟨#[98]⟩ : ByteArray)); refine (left_any ⟨#[98]⟩ _ h13 (by decide)).mono ?_; rw [left_view, HV7.out, show (⟨#[98]⟩ : ByteArray).data.toList = [98] from rfl, Q5.out]; rintro e w14 ⟨rfl, rfl⟩)
        | (go_at_call 11; refine (close_any ⟨#[98]⟩ _ h13 (by decide) hB13).mono ?_; rintro e w15 ⟨ys15, rfl, h15, hv15, hl15, hb15⟩
           simp only [held_view, HV7.out, Q2.out, ← HP.out] at h15 ⊢)
        | (go_at_call 17; refine (free_any g m 0 n _ _ h15.pool).mono ?_; rintro e w16 ⟨rfl, hb16⟩))
      go_ret
      refine ⟨rfl, ?_⟩
      rw [← HBW.out]
      have k1 := ((hbw9.trans (hbr.mono hB9)).trans (hb11.mono hBr)).trans (hb12.mono (Nat.le_trans hBr hb11.size))
      exact ((k1.trans (hb13.mono (Nat.le_trans (Nat.le_trans hBr hb11.size) hb12.size))).trans hb15).trans (hb16.mono (Nat.le_trans hB13 hb15.size))
end Go.Proofs.Ytopjmjobpkpmlaa
