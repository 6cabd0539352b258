/-
  policy.fits.
-/
import Derived.Test.YtnnamhomapagiaaGreatDoorPolFits
namespace Go.Proofs.YtnnamhomapagiaaGreatDoor
open Go.ChangeShapes Go.WideShapes Go.ChangeAt Go.RowKit Go.Deep

theorem within_iff {n m : Int} : withinB n m = true ↔ 1 ≤ n ∧ n ≤ m := by unfold withinB; rw [Bool.and_eq_true, decide_eq_true_eq, decide_eq_true_eq]
theorem badOne_name {t : Ti} (h : validB t.nm.toList = false) : badOne t = true := by unfold badOne; rw [h]; rfl
theorem badOne_num {t : Ti} (h : t.kp < 1 ∨ 1000000 < t.kp ∨ t.sh < 1 ∨ 8 < t.sh ∨ t.ev < 1 ∨ 1000000 < t.ev) : badOne t = true := by
  unfold badOne
  cases validB t.nm.toList
  · rfl
  · rw [Bool.eq_iff_iff]; simp only [Bool.or_eq_true, decide_eq_true_eq, iff_true]; right; omega
theorem badOne_no {t : Ti} (h : validB t.nm.toList = true) (h1 : 1 ≤ t.kp ∧ t.kp ≤ 1000000) (h2 : 1 ≤ t.sh ∧ t.sh ≤ 8) (h3 : 1 ≤ t.ev ∧ t.ev ≤ 1000000) : badOne t = false := by
  unfold badOne
  rw [h, decide_eq_false (by omega), decide_eq_false (by omega), decide_eq_false (by omega), decide_eq_false (by omega), decide_eq_false (by omega), decide_eq_false (by omega)]; rfl
theorem badAt_is (ts : List Ti) (j : Nat) (K : j < ts.length) : badAt ts j = ((badOne (ts[j]'K) || dupB (ts.take j) (ts[j]'K)) || (if j = 0 then !((ts[j]'K).ev == 1) else match ts[j - 1]? with | none => false | some o => badTwo o (ts[j]'K))) := by
  unfold badAt; rw [List.getElem?_eq_getElem K]; rfl
theorem badAt_ev (ts : List Ti) (j : Nat) (K : j < ts.length) (h : badAt ts j = false) : 1 ≤ (ts[j]'K).ev ∧ (ts[j]'K).ev ≤ 1000000 := by
  rw [badAt_is ts j K] at h
  simp only [Bool.or_eq_false_iff] at h
  have h1 := h.1.1
  unfold badOne at h1
  simp only [Bool.or_eq_false_iff, decide_eq_false_iff_not] at h1
  omega
theorem next_bad {t o : Ti} (hone : 1 ≤ t.ev ∧ t.ev ≤ 1000000 → badOne t = false) (hnum : t.ev < 1 ∨ 1000000 < t.ev → badOne t = true) (ho : 1 ≤ o.ev) :
    (badOne t || badTwo o t) = !(decide (o.ev < t.ev) && (decide (t.ev ≤ 1000000) && (dividesB o.ev t.ev && decide (o.kp ≤ t.kp)))) := by
  by_cases h1 : t.ev < 1 ∨ 1000000 < t.ev
  · rw [hnum h1]
    rcases h1 with h1 | h1
    · rw [decide_eq_false (show ¬ o.ev < t.ev by omega)]; rfl
    · rw [decide_eq_false (show ¬ t.ev ≤ 1000000 by omega)]; simp
  · rw [hone (by omega), decide_eq_true (show t.ev ≤ 1000000 by omega)]
    unfold badTwo dividesB
    rw [decide_eq_true ho]
    by_cases h2 : t.ev ≤ o.ev
    · rw [decide_eq_true h2, decide_eq_false (show ¬ o.ev < t.ev by omega)]; rfl
    · rw [decide_eq_false h2, decide_eq_true (show o.ev < t.ev by omega)]
      by_cases h3 : t.kp < o.kp
      · rw [decide_eq_true h3, decide_eq_false (show ¬ o.kp ≤ t.kp by omega)]; simp
      · rw [decide_eq_false h3, decide_eq_true (show o.kp ≤ t.kp by omega)]; simp
set_option maxRecDepth 100000 in
set_option maxHeartbeats 1000000 in
theorem fits_any (ts : List Ti) (j : Nat) (K : j < ts.length) (A : Option Addr) (c : Nat) (w : World) (hprev : ∀ i, i < j → badAt ts i = false) (hA : Tis w A j (ts.take j)) (hok : (ts[j]'K).Ok) :
    Calls Tryz.prog 21 #[.agg #[.string (ts[j]'K).nm, .int .i64 (ts[j]'K).ev, .int .i64 (ts[j]'K).kp, .int .i64 (ts[j]'K).sh], .slice A j c] w fun e w' => e = .returned (.bool (!badAt ts j)) ∧ Below w.heap.size w w' := by
  have hn := hA.n_le
  unfold maxLen at hn
  have HB := Lib.hid (badAt_is ts j K)
  have HP := Lib.hid hprev
  have HA := Lib.hid hA
  obtain ⟨t, ht⟩ : ∃ t, t = ts[j]'K := ⟨_, rfl⟩
  rw [← ht] at hok HB ⊢
  have b0 := Bx.new w 49 #[.string t.nm, .int .i64 t.ev, .int .i64 t.kp, .int .i64 t.sh]
  have hb0 : Below w.heap.size w (w.alloc (.cells #[.string t.nm, .int .i64 t.ev, .int .i64 t.kp, .int .i64 t.sh] 49)) := (Below.refl _ w).alloc (Nat.le_refl _) _
  have b1 := b0.alloc (.cells #[.string t.nm] 9)
  have hb1 := hb0.alloc hb0.size (.cells #[.string t.nm] 9)
  have HV := Lib.hid (valid_one t.nm (w.alloc (.cells #[.string t.nm, .int .i64 t.ev, .int .i64 t.kp, .int .i64 t.sh] 49)) hok.nm 1)
  rw [show (w.alloc (.cells #[.string t.nm, .int .i64 t.ev, .int .i64 t.kp, .int .i64 t.sh] 49)).heap.size = w.heap.size + 1 from by simp] at HV
  have x0 := b0.at_ 0 rfl
  have x2 := b1.at_ 2 rfl
  have x3 := b1.at_ 3 rfl
  have HX := Lib.hid b1
  clear b0 hA hprev ht
  by_cases hbad : validB t.nm.toList = true ∧ withinB t.kp 1000000 = true ∧ withinB t.sh 8 = true
  rotate_left
  · have HF := Lib.hid (show badAt ts j = true from by
      rw [HB.out]
      have : badOne t = true := by
        by_cases h1 : validB t.nm.toList = true
        · have : ¬ (1 ≤ t.kp ∧ t.kp ≤ 1000000) ∨ ¬ (1 ≤ t.sh ∧ t.sh ≤ 8) := by
            by_cases h2 : withinB t.kp 1000000 = true
            · exact .inr (fun h3 => hbad ⟨h1, h2, within_iff.2 h3⟩)
            · exact .inl (fun h3 => h2 (within_iff.2 h3))
          exact badOne_num (by omega)
        · exact badOne_name (by simpa using h1)
      rw [this]; rfl)
    cases hv : validB t.nm.toList
    · rw [hv] at HV
      clear hbad 
      go_enter Tryz.func21, Tryz.ntmps21
      go_wp2_with (first
        | (go_at_call 19; refine HV.out.mono ?_; rintro e w1 ⟨rfl, rfl⟩))
      go_ret
      exact ⟨by rw [HF.out]; rfl, hb1⟩
    rw [hv] at HV
    cases hk : withinB t.kp 1000000
    · clear hbad
      go_enter Tryz.func21, Tryz.ntmps21
      go_wp2_with (first
        | (go_at_call 19; refine HV.out.mono ?_; rintro e w1 ⟨rfl, rfl⟩)
        | (go_at_call 20; refine (within_any _ _ _).mono ?_; rintro e w1 ⟨rfl, rfl⟩))
      go_ret
      exact ⟨by rw [HF.out]; rfl, hb1⟩
    have hs : withinB t.sh 8 = false := by
      cases hh : withinB t.sh 8
      · rfl
      · exact absurd ⟨hv, hk, hh⟩ hbad
    clear hbad
    go_enter Tryz.func21, Tryz.ntmps21
    go_wp2_with (first
      | (go_at_call 19; refine HV.out.mono ?_; rintro e w1 ⟨rfl, rfl⟩)
      | (go_at_call 20; refine (within_any _ _ _).mono ?_; rintro e w1 ⟨rfl, rfl⟩))
    go_ret
    exact ⟨by rw [HF.out]; rfl, hb1⟩
  obtain ⟨hv, hk, hs⟩ := hbad
  rw [hv] at HV
  have hk' := within_iff.1 hk
  have hs' := within_iff.1 hs
  have HONE := Lib.hid (fun h => badOne_no (t := t) hv hk' hs' h)
  have HNUM := Lib.hid (fun h => badOne_num (t := t) (.inr (.inr (.inr (.inr h)))))
  clear hv
  have x1 := HX.out.at_ 1 rfl
  by_cases hj : j = 0
  · subst hj
    by_cases he : t.ev = 1
    · have HF := Lib.hid (show badAt ts 0 = false from by rw [HB.out, HONE.out (by omega), if_pos rfl, he]; rfl)
      have he' : (t.ev == 1) = true := beq_iff_eq.2 he
      clear he
      go_enter Tryz.func21, Tryz.ntmps21
      go_wp2_with (first
        | (go_at_call 19; refine HV.out.mono ?_; rintro e w1 ⟨rfl, rfl⟩)
        | (go_at_call 20; refine (within_any _ _ _).mono ?_; rintro e w1 ⟨rfl, rfl⟩))
      go_ret
      exact ⟨by rw [HF.out]; rfl, hb1⟩
    · have he' : (t.ev == 1) = false := beq_eq_false_iff_ne.2 he
      have HF := Lib.hid (show badAt ts 0 = true from by rw [HB.out, if_pos rfl, he']; simp)
      clear he
      go_enter Tryz.func21, Tryz.ntmps21
      go_wp2_with (first
        | (go_at_call 19; refine HV.out.mono ?_; rintro e w1 ⟨rfl, rfl⟩)
        | (go_at_call 20; refine (within_any _ _ _).mono ?_; rintro e w1 ⟨rfl, rfl⟩))
      go_ret
      exact ⟨by rw [HF.out]; rfl, hb1⟩
  have K3 : j - 1 < ts.length := by omega
  have ho := badAt_ev ts (j - 1) K3 (HP.out (j - 1) (by omega))
  have hot : ts[j - 1]? = some (ts[j - 1]'K3) := List.getElem?_eq_getElem K3
  have K4 : j - 1 < (ts.take j).length := by rw [List.length_take]; omega
  obtain ⟨b, off, rfl, hbl, X⟩ := (HA.out.below hb1).get K4
  have hget : (ts.take j)[j - 1]'K4 = ts[j - 1]'K3 := by rw [List.getElem_take]
  rw [hget] at X
  have HB2 := Lib.hid (show badAt ts j = ((badOne t || dupB (ts.take j) t) || badTwo (ts[j - 1]'K3) t) from by rw [HB.out, if_neg hj, hot])
  generalize ts[j - 1]'K3 = o at *
  obtain ⟨r0, r1, r2, r3⟩ := X
  have hci : ((j : Int) == 0) = false := beq_eq_false_iff_ne.2 (by omega)
  have hw1 : IntKind.i64.wrap ((j : Int) - 1) = (j : Int) - 1 := IntWalk.i64_in _ (by omega)
  have ht1 : ((j : Int) - 1).toNat = j - 1 := by omega
  have g0 : (0 : Int) ≤ (j : Int) - 1 := by omega
  have g1 : (j : Int) - 1 < (j : Int) := by omega
  have hb2 := hb1.alloc hb1.size (.cells #[.string o.nm, .int .i64 o.ev, .int .i64 o.kp, .int .i64 o.sh] 49)
  have HC := Lib.hid (containsT_any (some ⟨b, off, none⟩) j c (ts.take j) t w.heap.size _ (HA.out.below hb2) ((HX.out.alloc (.cells #[.string o.nm, .int .i64 o.ev, .int .i64 o.kp, .int .i64 o.sh] 49)).at_ 0 rfl) (by simp; omega))
  have HT := Lib.hid (HX.out.alloc (.cells #[.string o.nm, .int .i64 o.ev, .int .i64 o.kp, .int .i64 o.sh] 49))
  have HO := Lib.hid (Bx.new ((w.alloc (.cells #[.string t.nm, .int .i64 t.ev, .int .i64 t.kp, .int .i64 t.sh] 49)).alloc (.cells #[.string t.nm] 9)) 49 #[.string o.nm, .int .i64 o.ev, .int .i64 o.kp, .int .i64 o.sh])
  have HD := Lib.hid (fun W => divides_any o.ev t.ev W)
  clear hb1 hot hget hbl HP HB K3 K4
  go_enter Tryz.func21, Tryz.ntmps21
  cases hd : dupB (ts.take j) t
  rotate_left
  · have HF := Lib.hid (show badAt ts j = true from by rw [HB2.out, hd]; simp)
    rw [hd] at HC
    clear HD HONE HNUM HB2
    go_wp2_with (first
      | (go_at_call 19; refine HV.out.mono ?_; rintro e w1 ⟨rfl, rfl⟩)
      | (go_at_call 20; refine (within_any _ _ _).mono ?_; rintro e w1 ⟨rfl, rfl⟩)
      | (go_at_call 70; refine HC.out.mono ?_; rintro e w1 ⟨rfl, hb3⟩))
    go_ret
    exact ⟨by rw [HF.out]; rfl, hb2.trans (hb3.mono hb2.size)⟩
  rw [hd] at HC HB2
  rw [Bool.or_false] at HB2
  have HB3 := Lib.hid (HB2.out.trans (next_bad HONE.out HNUM.out ho.1))
  clear HB2 HONE HNUM hd ho
  by_cases c1 : o.ev < t.ev
  rotate_left
  · have HF := Lib.hid (show badAt ts j = true from by rw [HB3.out, decide_eq_false c1]; rfl)
    clear HB3
    go_wp2_with (first
      | (go_at_call 19; refine HV.out.mono ?_; rintro e w1 ⟨rfl, rfl⟩)
      | (go_at_call 20; refine (within_any _ _ _).mono ?_; rintro e w1 ⟨rfl, rfl⟩)
      | (go_at_call 70; refine HC.out.mono ?_; rintro e w1 ⟨rfl, hb3⟩
         have T := HT.out.below hb3
         have O := HO.out.below hb3
         have u1 := T.at_ 1 rfl
         have u2 := T.at_ 2 rfl
         have v1 := O.at_ 1 rfl
         have v2 := O.at_ 2 rfl
         simp only [World.size_alloc] at v1 v2)
      | (go_at_call 72; refine (HD.out _).mono ?_; rintro e w1 ⟨rfl, rfl⟩))
    go_ret
    exact ⟨by rw [HF.out]; rfl, hb2.trans (hb3.mono hb2.size)⟩
  by_cases c2 : t.ev ≤ 1000000
  rotate_left
  · have HF := Lib.hid (show badAt ts j = true from by rw [HB3.out, decide_eq_false c2]; simp)
    clear HB3
    go_wp2_with (first
      | (go_at_call 19; refine HV.out.mono ?_; rintro e w1 ⟨rfl, rfl⟩)
      | (go_at_call 20; refine (within_any _ _ _).mono ?_; rintro e w1 ⟨rfl, rfl⟩)
      | (go_at_call 70; refine HC.out.mono ?_; rintro e w1 ⟨rfl, hb3⟩
         have T := HT.out.below hb3
         have O := HO.out.below hb3
         have u1 := T.at_ 1 rfl
         have u2 := T.at_ 2 rfl
         have v1 := O.at_ 1 rfl
         have v2 := O.at_ 2 rfl
         simp only [World.size_alloc] at v1 v2)
      | (go_at_call 72; refine (HD.out _).mono ?_; rintro e w1 ⟨rfl, rfl⟩))
    go_ret
    exact ⟨by rw [HF.out]; rfl, hb2.trans (hb3.mono hb2.size)⟩
  cases c3 : dividesB o.ev t.ev
  · have HF := Lib.hid (show badAt ts j = true from by rw [HB3.out, c3]; simp)
    rw [c3] at HD
    clear HB3 c3
    go_wp2_with (first
      | (go_at_call 19; refine HV.out.mono ?_; rintro e w1 ⟨rfl, rfl⟩)
      | (go_at_call 20; refine (within_any _ _ _).mono ?_; rintro e w1 ⟨rfl, rfl⟩)
      | (go_at_call 70; refine HC.out.mono ?_; rintro e w1 ⟨rfl, hb3⟩
         have T := HT.out.below hb3
         have O := HO.out.below hb3
         have u1 := T.at_ 1 rfl
         have u2 := T.at_ 2 rfl
         have v1 := O.at_ 1 rfl
         have v2 := O.at_ 2 rfl
         simp only [World.size_alloc] at v1 v2)
      | (go_at_call 72; refine (HD.out _).mono ?_; rintro e w1 ⟨rfl, rfl⟩))
    go_ret
    exact ⟨by rw [HF.out]; rfl, hb2.trans (hb3.mono hb2.size)⟩
  by_cases c4 : o.kp ≤ t.kp
  · have HF := Lib.hid (show badAt ts j = false from by rw [HB3.out, c3, decide_eq_true c1, decide_eq_true c2, decide_eq_true c4]; rfl)
    rw [c3] at HD
    clear HB3 c3
    go_wp2_with (first
      | (go_at_call 19; refine HV.out.mono ?_; rintro e w1 ⟨rfl, rfl⟩)
      | (go_at_call 20; refine (within_any _ _ _).mono ?_; rintro e w1 ⟨rfl, rfl⟩)
      | (go_at_call 70; refine HC.out.mono ?_; rintro e w1 ⟨rfl, hb3⟩
         have T := HT.out.below hb3
         have O := HO.out.below hb3
         have u1 := T.at_ 1 rfl
         have u2 := T.at_ 2 rfl
         have v1 := O.at_ 1 rfl
         have v2 := O.at_ 2 rfl
         simp only [World.size_alloc] at v1 v2)
      | (go_at_call 72; refine (HD.out _).mono ?_; rintro e w1 ⟨rfl, rfl⟩))
    go_ret
    exact ⟨by rw [HF.out]; rfl, hb2.trans (hb3.mono hb2.size)⟩
  · have HF := Lib.hid (show badAt ts j = true from by rw [HB3.out, decide_eq_false c4]; simp)
    rw [c3] at HD
    clear HB3 c3
    go_wp2_with (first
      | (go_at_call 19; refine HV.out.mono ?_; rintro e w1 ⟨rfl, rfl⟩)
      | (go_at_call 20; refine (within_any _ _ _).mono ?_; rintro e w1 ⟨rfl, rfl⟩)
      | (go_at_call 70; refine HC.out.mono ?_; rintro e w1 ⟨rfl, hb3⟩
         have T := HT.out.below hb3
         have O := HO.out.below hb3
         have u1 := T.at_ 1 rfl
         have u2 := T.at_ 2 rfl
         have v1 := O.at_ 1 rfl
         have v2 := O.at_ 2 rfl
         simp only [World.size_alloc] at v1 v2)
      | (go_at_call 72; refine (HD.out _).mono ?_; rintro e w1 ⟨rfl, rfl⟩))
    go_ret
    exact ⟨by rw [HF.out]; first | rfl | exact ret_bool (decide_eq_false (by omega)), hb2.trans (hb3.mono hb2.size)⟩
end Go.Proofs.YtnnamhomapagiaaGreatDoor
