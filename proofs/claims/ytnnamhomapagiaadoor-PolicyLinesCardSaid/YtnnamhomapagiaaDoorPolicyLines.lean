/-
  PolicyLines: its walk.
-/
import Derived.Test.YtnnamhomapagiaaDoorPolTwice
import Derived.Test.YtnnamhomapagiaaDoorRulesLaws
import Derived.Test.YtnnamhomapagiaaDoorLinesLaws
import Derived.Deep.RegionHeld3
namespace Go.Proofs.YtnnamhomapagiaaDoor
open Go.ChangeShapes Go.WideShapes Go.ChangeAt Go.RowKit Go.Deep

theorem extract_take (s : ByteArray) (k : Nat) : (s.extract 0 k).toList = s.toList.take k := by rw [extract_is, toList_mk, List.drop_zero]
theorem extract_drop (s : ByteArray) (k : Nat) : (s.extract k s.size).toList = s.toList.drop k := by
  rw [extract_is, toList_mk, ← len_toList, List.take_length]
set_option maxRecDepth 100000 in
set_option maxHeartbeats 4000000 in
theorem walk_PolicyLines {v0 : Value} (x : ByteArray × Option Addr × Nat × Nat × List Ti) (at_ : Int) (bad : ByteArray) (w : World) (hm : ∃ m : Int, w.cell? ⟨0, 0, none⟩ = some (.int .i64 m)) (htab : Lib.TabIs Tryd.prog w "internal/strconv.uint64pow10" .u64 Lib.pow10Tab)
    (hx : PolArg w v0 x) (_ : bad.size ≤ maxLen) :
    Calls Tryd.prog 5 #[v0, .int .i64 at_, .string bad] w fun e w' => e = .returned (.bool true) ∧ Below w.heap.size w w' := by
  obtain ⟨nm, A, n, c, ts⟩ := x
  obtain ⟨rfl, hnm, hts, hc⟩ := hx
  simp only at hnm hts hc ⊢
  have hlt0 : 0 < w.heap.size := by obtain ⟨m, h⟩ := hm; have := block_lt_of_cell h; simpa using this
  have HM := Lib.hid (fun W (hW : Below w.heap.size w W) => hm.imp fun m h => (hW.cell (p := ⟨0, 0, none⟩) hlt0).trans h)
  have HTAB := Lib.hid (fun W (hW : Below w.heap.size w W) => Lib.tabBelow_of_tabIs htab W hW)
  have HALIVE := Lib.hid (fun W (hW : Below w.heap.size w W) => alive_any W (HM.out W hW) (HTAB.out W hW))
  have HT := Lib.hid hts
  have HNM := Lib.hid hnm
  have HLN := Lib.hid hts.len
  have hb0 : Below w.heap.size w (w.alloc (.cells #[.string nm, .slice A n c] 24)) := (Below.refl _ _).alloc (Nat.le_refl _) _
  have bp := Bx.new w 24 #[.string nm, .slice A n c]
  have p0 := bp.at_ 0 rfl
  have p1 := bp.at_ 1 rfl
  have HPR := Lib.hid (fun W (hW : Below w.heap.size w W) => print_any nm A n c ts W HNM.out (HT.out.below hW) hc (HTAB.out W hW))
  clear hm htab hlt0 hts hnm
  by_cases h200 : 200 < bad.size
  · have z1 : decide (200 < (bad.size : Int)) = true := decide_eq_true (by omega)
    go_enter Tryd.func5, Tryd.ntmps5
    go_wp2_with (first
      | (go_at_call 8; refine (small_any nm A n c ts _ HNM.out (HT.out.below hb0)).mono ?_; rintro e w2 ⟨b1, rfl, _, hb2⟩
         have hbx := hb0.trans (hb2.mono hb0.size)
         have bpx := bp.below hb2
         have p0 := bpx.at_ 0 rfl
         have p1 := bpx.at_ 1 rfl)
      | (go_at_call 9; refine (HALIVE.out _ hbx).mono ?_; rintro e w5 ⟨rfl, hb5⟩
         have hfin := hbx.trans (hb5.mono hbx.size)))
    all_goals
      go_ret
      exact ⟨rfl, hfin⟩
  have z1 : decide (200 < (bad.size : Int)) = false := decide_eq_false (by omega)
  by_cases hat0 : at_ < 0
  · go_enter Tryd.func5, Tryd.ntmps5
    go_wp2_with (first
      | (go_at_call 8; refine (small_any nm A n c ts _ HNM.out (HT.out.below hb0)).mono ?_; rintro e w2 ⟨b1, rfl, _, hb2⟩
         have hbx := hb0.trans (hb2.mono hb0.size)
         have bpx := bp.below hb2
         have p0 := bpx.at_ 0 rfl
         have p1 := bpx.at_ 1 rfl)
      | (go_at_call 9; refine (HALIVE.out _ hbx).mono ?_; rintro e w5 ⟨rfl, hb5⟩
         have hfin := hbx.trans (hb5.mono hbx.size)))
    all_goals
      go_ret
      exact ⟨rfl, hfin⟩
  by_cases hatn : (n : Int) < at_
  · have z3 : decide (at_ > (n : Int)) = true := decide_eq_true hatn
    go_enter Tryd.func5, Tryd.ntmps5
    go_wp2_with (first
      | (go_at_call 8; refine (small_any nm A n c ts _ HNM.out (HT.out.below hb0)).mono ?_; rintro e w2 ⟨b1, rfl, _, hb2⟩
         have hbx := hb0.trans (hb2.mono hb0.size)
         have bpx := bp.below hb2
         have p0 := bpx.at_ 0 rfl
         have p1 := bpx.at_ 1 rfl)
      | (go_at_call 9; refine (HALIVE.out _ hbx).mono ?_; rintro e w5 ⟨rfl, hb5⟩
         have hfin := hbx.trans (hb5.mono hbx.size)))
    all_goals
      go_ret
      exact ⟨rfl, hfin⟩
  have z2 : decide (at_ < 0) = false := decide_eq_false hat0
  have z3 : decide (at_ > (n : Int)) = false := decide_eq_false hatn
  have z4 : decide ((n : Int) < at_) = false := decide_eq_false hatn
  rcases checkR_cases nm.toList ts with hck | ⟨h23, _, _⟩
  rotate_left
  · have hz : (checkR nm.toList ts).1 ≠ 0 := by omega
    have hz' : ((checkR nm.toList ts).1 != 0) = true := bne_iff_ne.2 hz
    clear hz h23
    go_enter Tryd.func5, Tryd.ntmps5
    go_wp2_with (first
      | (go_at_call 8; refine (small_any nm A n c ts _ HNM.out (HT.out.below hb0)).mono ?_; rintro e w2 ⟨b1, rfl, _, hb2⟩
         have hbx := hb0.trans (hb2.mono hb0.size)
         have bpx := bp.below hb2
         have p0 := bpx.at_ 0 rfl
         have p1 := bpx.at_ 1 rfl)
      | (go_at_call 10; refine (HPR.out _ hbx).mono ?_; rintro e w3 ⟨rfl, hb3⟩
         have hbx := hbx.trans (hb3.mono hbx.size))
      | (go_at_call 9; refine (HALIVE.out _ hbx).mono ?_; rintro e w5 ⟨rfl, hb5⟩
         have hfin := hbx.trans (hb5.mono hbx.size)))
    all_goals
      go_ret
      exact ⟨rfl, hfin⟩
  obtain ⟨S1, hS1⟩ : ∃ S1 : ByteArray, S1 = ⟨#[112, 111, 108, 105, 99, 121, 32, 97, 10]⟩ ++ bad := ⟨_, rfl⟩
  have hS1s : S1.size ≤ maxLen := by rw [hS1, ByteArray.size_append]; show 9 + bad.size ≤ _; unfold maxLen; omega
  have HPA := Lib.hid (fun W (hW : Below w.heap.size w W) => parse_any S1 W hS1s (HM.out W hW))
  have hS1l : S1.toList = aHead ++ 10 :: bad.toList := by rw [hS1, ByteArray.toList_eq, ByteArray.toList_eq]; simp [aHead]
  cases hP : parseT S1 with
  | good nm2 us =>
    rw [hP, hS1] at HPA
    unfold ParseSays at HPA
    clear hP
    go_enter Tryd.func5, Tryd.ntmps5
    go_wp2_with (first
      | (go_at_call 8; refine (small_any nm A n c ts _ HNM.out (HT.out.below hb0)).mono ?_; rintro e w2 ⟨b1, rfl, _, hb2⟩
         have hbx := hb0.trans (hb2.mono hb0.size)
         have bpx := bp.below hb2
         have p0 := bpx.at_ 0 rfl
         have p1 := bpx.at_ 1 rfl)
      | (go_at_call 10; refine (printP_any nm A n c ts _ hck (HT.out.below hbx) hc (HTAB.out _ hbx)).mono ?_; rintro e w3 ⟨rfl, hb3⟩
         have hbx := hbx.trans (hb3.mono hbx.size))
      | (go_at_call 15; refine (HPA.out _ hbx).mono ?_; rintro e w4 ⟨⟨A1, c1, rfl, _, _, _, _⟩, hb4⟩
         have hba4 := hb4.trans ((Below.refl w4.heap.size w4).alloc (Nat.le_refl _) (.cells #[.string ⟨nm2.toArray⟩, .slice A1 us.length c1] 24) |>.mono hb4.size)
         have hbx := hbx.trans (hba4.mono hbx.size))
      | (go_at_call 9; refine (HALIVE.out _ hbx).mono ?_; rintro e w5 ⟨rfl, hb5⟩
         have hfin := hbx.trans (hb5.mono hbx.size)))
    all_goals
      go_ret
      exact ⟨rfl, hfin⟩
  | bad k a =>
    rw [hP, hS1] at HPA
    unfold ParseSays at HPA
    by_cases hk : k = 22
    rotate_left
    · have hk' : (k != 22) = true := bne_iff_ne.2 hk
      clear hP hk
      go_enter Tryd.func5, Tryd.ntmps5
      go_wp2_with (first
        | (go_at_call 8; refine (small_any nm A n c ts _ HNM.out (HT.out.below hb0)).mono ?_; rintro e w2 ⟨b1, rfl, _, hb2⟩
           have hbx := hb0.trans (hb2.mono hb0.size)
           have bpx := bp.below hb2
           have p0 := bpx.at_ 0 rfl
           have p1 := bpx.at_ 1 rfl)
        | (go_at_call 10; refine (printP_any nm A n c ts _ hck (HT.out.below hbx) hc (HTAB.out _ hbx)).mono ?_; rintro e w3 ⟨rfl, hb3⟩
           have hbx := hbx.trans (hb3.mono hbx.size))
        | (go_at_call 15; refine (HPA.out _ hbx).mono ?_; rintro e w4 ⟨rfl, hb4⟩
           have hba4 := hb4.trans ((Below.refl w4.heap.size w4).alloc (Nat.le_refl _) (.cells #[.string ByteArray.empty, .slice none 0 0] 24) |>.mono hb4.size)
           have hbx := hbx.trans (hba4.mono hbx.size))
        | (go_at_call 9; refine (HALIVE.out _ hbx).mono ?_; rintro e w5 ⟨rfl, hb5⟩
           have hfin := hbx.trans (hb5.mono hbx.size)))
      all_goals
        go_ret
        exact ⟨rfl, hfin⟩
    subst hk
    by_cases ha : a = 2
    rotate_left
    · have ha' : (a != 2) = true := bne_iff_ne.2 ha
      clear hP ha
      go_enter Tryd.func5, Tryd.ntmps5
      go_wp2_with (first
        | (go_at_call 8; refine (small_any nm A n c ts _ HNM.out (HT.out.below hb0)).mono ?_; rintro e w2 ⟨b1, rfl, _, hb2⟩
           have hbx := hb0.trans (hb2.mono hb0.size)
           have bpx := bp.below hb2
           have p0 := bpx.at_ 0 rfl
           have p1 := bpx.at_ 1 rfl)
        | (go_at_call 10; refine (printP_any nm A n c ts _ hck (HT.out.below hbx) hc (HTAB.out _ hbx)).mono ?_; rintro e w3 ⟨rfl, hb3⟩
           have hbx := hbx.trans (hb3.mono hbx.size))
        | (go_at_call 15; refine (HPA.out _ hbx).mono ?_; rintro e w4 ⟨rfl, hb4⟩
           have hba4 := hb4.trans ((Below.refl w4.heap.size w4).alloc (Nat.le_refl _) (.cells #[.string ByteArray.empty, .slice none 0 0] 24) |>.mono hb4.size)
           have hbx := hbx.trans (hba4.mono hbx.size))
        | (go_at_call 9; refine (HALIVE.out _ hbx).mono ?_; rintro e w5 ⟨rfl, hb5⟩
           have hfin := hbx.trans (hb5.mono hbx.size)))
      all_goals
        go_ret
        exact ⟨rfl, hfin⟩
    subst ha
    by_cases hb0s : bad.size = 0
    · have hbe : bad.toList = [] := List.eq_nil_of_length_eq_zero (by rw [len_toList]; exact hb0s)
      have hbe' : (bad.toList == ([] : List UInt8)) = true := by rw [hbe]; rfl
      clear hP hbe
      go_enter Tryd.func5, Tryd.ntmps5
      go_wp2_with (first
        | (go_at_call 8; refine (small_any nm A n c ts _ HNM.out (HT.out.below hb0)).mono ?_; rintro e w2 ⟨b1, rfl, _, hb2⟩
           have hbx := hb0.trans (hb2.mono hb0.size)
           have bpx := bp.below hb2
           have p0 := bpx.at_ 0 rfl
           have p1 := bpx.at_ 1 rfl)
        | (go_at_call 10; refine (printP_any nm A n c ts _ hck (HT.out.below hbx) hc (HTAB.out _ hbx)).mono ?_; rintro e w3 ⟨rfl, hb3⟩
           have hbx := hbx.trans (hb3.mono hbx.size))
        | (go_at_call 15; refine (HPA.out _ hbx).mono ?_; rintro e w4 ⟨rfl, hb4⟩
           have hba4 := hb4.trans ((Below.refl w4.heap.size w4).alloc (Nat.le_refl _) (.cells #[.string ByteArray.empty, .slice none 0 0] 24) |>.mono hb4.size)
           have hbx := hbx.trans (hba4.mono hbx.size))
        | (go_at_call 9; refine (HALIVE.out _ hbx).mono ?_; rintro e w5 ⟨rfl, hb5⟩
           have hfin := hbx.trans (hb5.mono hbx.size)))
      all_goals
        go_ret
        exact ⟨rfl, hfin⟩
    have hbe' : (bad.toList == ([] : List UInt8)) = false := beq_eq_false_iff_ne.2 (fun e => hb0s (by rw [← len_toList, e]; rfl))
    have hb1s : 0 < bad.size := by omega
    have hb1i : (0 : Int) < (bad.size : Int) := by omega
    by_cases hb10 : (bad[0].toNat : Int) = 10
    · have hb10' : ((bad[0].toNat : Int) == 10) = true := beq_iff_eq.2 hb10
      clear hP hb10
      go_enter Tryd.func5, Tryd.ntmps5
      go_wp2_with (first
        | (go_at_call 8; refine (small_any nm A n c ts _ HNM.out (HT.out.below hb0)).mono ?_; rintro e w2 ⟨b1, rfl, _, hb2⟩
           have hbx := hb0.trans (hb2.mono hb0.size)
           have bpx := bp.below hb2
           have p0 := bpx.at_ 0 rfl
           have p1 := bpx.at_ 1 rfl)
        | (go_at_call 10; refine (printP_any nm A n c ts _ hck (HT.out.below hbx) hc (HTAB.out _ hbx)).mono ?_; rintro e w3 ⟨rfl, hb3⟩
           have hbx := hbx.trans (hb3.mono hbx.size))
        | (go_at_call 15; refine (HPA.out _ hbx).mono ?_; rintro e w4 ⟨rfl, hb4⟩
           have hba4 := hb4.trans ((Below.refl w4.heap.size w4).alloc (Nat.le_refl _) (.cells #[.string ByteArray.empty, .slice none 0 0] 24) |>.mono hb4.size)
           have hbx := hbx.trans (hba4.mono hbx.size))
        | (go_at_call 9; refine (HALIVE.out _ hbx).mono ?_; rintro e w5 ⟨rfl, hb5⟩
           have hfin := hbx.trans (hb5.mono hbx.size)))
      all_goals
        go_ret
        exact ⟨rfl, hfin⟩
    have hb10' : ((bad[0].toNat : Int) == 10) = false := beq_eq_false_iff_ne.2 hb10
    clear hb10
    go_enter Tryd.func5, Tryd.ntmps5
    go_upto_region 9 with (first
      | (go_at_call 8; refine (small_any nm A n c ts _ HNM.out (HT.out.below hb0)).mono ?_; rintro e w2 ⟨b1, rfl, _, hb2⟩
         have hbx := hb0.trans (hb2.mono hb0.size)
         have bpx := bp.below hb2
         have p0 := bpx.at_ 0 rfl
         have p1 := bpx.at_ 1 rfl)
      | (go_at_call 10; refine (printP_any nm A n c ts _ hck (HT.out.below hbx) hc (HTAB.out _ hbx)).mono ?_; rintro e w3 ⟨rfl, hb3⟩
         have hbx := hbx.trans (hb3.mono hbx.size))
      | (go_at_call 15; refine (HPA.out _ hbx).mono ?_; rintro e w4 ⟨rfl, hb4⟩
         have hba4 := hb4.trans ((Below.refl w4.heap.size w4).alloc (Nat.le_refl _) (.cells #[.string ByteArray.empty, .slice none 0 0] 24) |>.mono hb4.size)
         have hbx := hbx.trans (hba4.mono hbx.size))
      | (go_at_call 9; refine (HALIVE.out _ hbx).mono ?_; rintro e w5 ⟨rfl, hb5⟩
         have hfin := hbx.trans (hb5.mono hbx.size)))
    all_goals try (go_ret; exact ⟨rfl, hfin⟩)
    obtain ⟨m, rfl⟩ : ∃ m : Nat, at_ = m := ⟨at_.toNat, by omega⟩
    have hmn : m ≤ n := by omega
    obtain ⟨hv, _, h5, hf, _⟩ := check_fine hck
    have hln := HLN.out
    have HV := Lib.hid hv
    have HF := Lib.hid hf
    obtain ⟨S, hS⟩ : ∃ S : ByteArray, S = ⟨(printL nm.toList ts).toArray⟩ := ⟨_, rfl⟩
    have hSl : S.toList = printL nm.toList ts := by rw [hS, toList_mk]
    rw [← hS]
    have hSs : S.size ≤ 400 := by rw [← len_toList, hSl]; exact print_len hv hf h5
    have hcnt : S.toList.count 10 = n + 1 := by rw [hSl, print_count _ hv ts hf, hln]
    have HSL := Lib.hid hSl
    have HCN := Lib.hid hcnt
    have HP := Lib.hid hP
    have HS1L := Lib.hid hS1l
    have H5 := Lib.hid h5
    have h5n : n ≤ 5 := by omega
    have hbs : bad.size ≤ 200 := by omega
    clear hv hf hS hSl hcnt hP hS1l hS1 hS1s h5 hb2 hba4 hb3 hb4 bp hb0 bpx p0 p1 z2 z3 z4 hb10' hbe' HPA HPR hat0 hatn h200 z1
    go_wp2_with fail
    go_loop [12, 13] (fun ln k => ∃ j : Nat, j ≤ S.size ∧ k = .int .i64 j ∧ ln = .int .i64 ((S.toList.take j).count 10 : Nat) ∧ Hid ((S.toList.take j).count 10 ≤ m ∨ ((S.toList.take j).count 10 = m + 1 ∧ ∃ a, S.toList.take j = a ++ [10]))) (fun _ k => S.size - (intOf k).toNat)
    case atStart => exact ⟨0, Nat.zero_le _, rfl, rfl, Lib.hid (.inl (Nat.zero_le _))⟩
    case round =>
      obtain ⟨j, hj, rfl, rfl, HQ⟩ := hrel
      obtain ⟨q, hq⟩ : ∃ q, (S.toList.take j).count 10 = q := ⟨_, rfl⟩
      rw [hq] at HQ ⊢
      have HCQ := Lib.hid hq
      clear hq
      by_cases hgo : j < S.size ∧ q ≤ m
      · obtain ⟨hjs, hqm⟩ := hgo
        have HTS := Lib.hid (take_snoc S j hjs)
        have hu : S[j].toNat ≤ 255 := by have := S[j].toNat_lt; omega
        have g0 : (0 : Int) ≤ (j : Int) := by omega
        have y1 : decide ((j : Int) < (S.size : Int)) = true := decide_eq_true (by omega)
        have y2 : decide ((q : Int) ≤ (m : Int)) = true := decide_eq_true (by omega)
        by_cases h10 : (S[j].toNat : Int) = 10
        · have hb : S[j] = 10 := UInt8.toNat_inj.1 (by have : (10 : UInt8).toNat = 10 := rfl; omega)
          have HN := Lib.hid (show (S.toList.take (j + 1)).count 10 = q + 1 from by rw [HTS.out, List.count_append, HCQ.out, hb]; rfl)
          have HE := Lib.hid (show ∃ a, S.toList.take (j + 1) = a ++ [10] from ⟨_, by rw [HTS.out, hb]⟩)
          have h10' : ((S[j].toNat : Int) == 10) = true := beq_iff_eq.2 h10
          clear hb h10
          go_wp2
          go_round
          case rel => exact ⟨j + 1, by omega, by go_num, by rw [HN.out]; exact int_eq (by omega), Lib.hid (by
            rw [HN.out]
            rcases Nat.lt_or_ge q m with h | h
            · exact .inl (by omega)
            · exact .inr ⟨by omega, HE.out⟩)⟩
          case measure => simp [intOf]; omega
        · have h10' : ((S[j].toNat : Int) == 10) = false := beq_eq_false_iff_ne.2 h10
          have HN := Lib.hid (show (S.toList.take (j + 1)).count 10 = q from by
            have hne : S[j] ≠ 10 := fun e => h10 (by rw [e]; rfl)
            rw [HTS.out, List.count_append, HCQ.out, List.count_singleton, if_neg (by simpa using hne)]; omega)
          clear h10
          go_wp2
          go_round
          case rel => exact ⟨j + 1, by omega, by go_num, by rw [HN.out], Lib.hid (.inl (by rw [HN.out]; exact hqm))⟩
          case measure => simp [intOf]; omega
      · have hstop : q = m + 1 ∧ ∃ a, S.toList.take j = a ++ [10] := by
          rcases HQ.out with h | h
          · exfalso
            have hje : j = S.size := by omega
            have := HCQ.out
            rw [hje, List.take_of_length_le (by rw [len_toList]; omega), HCN.out] at this
            omega
          · exact h
        obtain ⟨hq1, hq2⟩ := hstop
        have y2 : decide ((q : Int) ≤ (m : Int)) = false := decide_eq_false (by omega)
        have hst := stop_at (k := j) HV.out HF.out (show m ≤ ts.length by omega) (by rw [← HSL.out, HCQ.out, hq1]) (by rw [← HSL.out]; exact hq2)
        rw [← HSL.out] at hst
        obtain ⟨T, hT⟩ : ∃ T : ByteArray, T = S.extract 0 j ++ bad ++ ⟨#[10]⟩ ++ S.extract j S.size := ⟨_, rfl⟩
        have hTl : T.toList = printL nm.toList (ts.take m) ++ (bad.toList ++ 10 :: (ts.drop m).flatMap tierP) := by
          rw [hT, ← hst.1, ← hst.2, ← extract_take, ← extract_drop]
          rw [ByteArray.toList_eq, ByteArray.toList_eq, ByteArray.toList_eq, ByteArray.toList_eq]
          simp
        have hTs : T.size ≤ maxLen := by
          rw [hT, ByteArray.size_append, ByteArray.size_append, ByteArray.size_append, ← len_toList (S.extract 0 j), ← len_toList (S.extract j S.size), extract_take, extract_drop, List.length_take, List.length_drop, len_toList]
          show _ + bad.size + 1 + _ ≤ _
          unfold maxLen; omega
        have hres := lines_told nm.toList ts m HV.out HF.out H5.out (by omega) bad S1 T (by omega) HS1L.out hTl HP.out
        have HPT := Lib.hid (fun W (hW : Below w.heap.size w W) => parse_any T W hTs (HM.out W hW))
        rw [hres, hT] at HPT
        unfold ParseSays at HPT
        clear hst hTl hres hT hTs hq1 hq2 HQ HCQ
        have g0 : (0 : Int) ≤ (j : Int) := by omega
        have g1 : (j : Int) ≤ (S.size : Int) := by omega
        have hbD := hbx.trans ((Below.refl _ _).drew.mono hbx.size)
        obtain ⟨wz, hwz⟩ : ∃ wz, wz = w4.alloc (.cells #[.string ByteArray.empty, .slice none 0 0] 24) := ⟨_, rfl⟩
        have hwzs : wz.heap.size = w4.heap.size + 1 := by rw [hwz]; simp
        have hbD2 : Below w.heap.size w (wz.alloc (.cells #[.string ⟨#[]⟩, .slice none 0 0] 24)).drew := by rw [hwz]; exact (hbx.alloc hbx.size _).drew
        have bz := (Bx.new wz 24 #[.string ⟨#[]⟩, .slice none 0 0]).drew
        rw [hwzs] at bz
        rw [hwz] at hbD2 bz
        have HWZ := Lib.hid hwz
        have hge : w.heap.size ≤ w4.heap.size + 1 := by have := hbx.size; simp at this; omega
        have hjs : j ≤ S.size := hj
        have hadd : IntKind.i64.wrap ((m : Int) + 2) = (m : Int) + 2 := IntWalk.i64_in _ (by omega)
        clear hwz hwzs
        by_cases hjs2 : j < S.size
        all_goals
          go_upto_region 14 with fail
          go_region_with (first
            | (go_at_call 15; (with_reducible refine (HPT.out _ hbD).mono ?_); rintro e w6 ⟨rfl, hb6⟩
               have hb7 := (hbD.trans (hb6.mono hbD.size)).alloc (Nat.le_trans hbD.size hb6.size) (.cells #[.string ByteArray.empty, .slice none 0 0] 24))
            | (go_at_call 15; refine (HPT.out _ hbD2).mono ?_; rintro e w6 ⟨rfl, hb6⟩
               have b6 := bz.below hb6
               have u0 := b6.at_ 0 rfl
               have u1 := b6.at_ 1 rfl
               have f0 := b6.free 0
               have f1 := b6.free 1
               have hb7 := ((hbD2.trans (hb6.mono hbD2.size)).setCell (p := ⟨w4.heap.size + 1, 0, none⟩) hge (.string ByteArray.empty)).setCell (p := ⟨w4.heap.size + 1, 1, none⟩) hge (.slice none 0 0)))
          all_goals
            go_wp2_with (go_at_call 9; refine (HALIVE.out _ hb7).mono ?_; rintro e w8 ⟨rfl, hb8⟩)
            go_ret
            exact ⟨rfl, hb7.trans (hb8.mono hb7.size)⟩
end Go.Proofs.YtnnamhomapagiaaDoor
