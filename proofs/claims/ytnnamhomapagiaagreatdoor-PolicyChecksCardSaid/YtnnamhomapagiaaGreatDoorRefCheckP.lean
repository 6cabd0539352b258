/-
  sedimentref6.Check: may a policy be?
-/
import Derived.Test.YtnnamhomapagiaaGreatDoorPolP
import Derived.Test.YtnnamhomapagiaaGreatDoorRefNameP
import Derived.Deep.QuietTactic
import Derived.BigQuiet
import Derived.IntWalk
import Derived.Deep.DeepCutAuto
namespace Go.Proofs.YtnnamhomapagiaaGreatDoor
open Go.ChangeShapes Go.WideShapes Go.ChangeAt Go.RowKit Go.Deep

/-- A tier by itself is none. -/
def badOne (t : Ti) : Bool := !validB t.nm.toList || (decide (t.kp < 1) || (decide (1000000 < t.kp) || (decide (t.sh < 1) || (decide (8 < t.sh) || (decide (t.ev < 1) || decide (1000000 < t.ev))))))
def dupB (l : List Ti) (t : Ti) : Bool := l.any fun x => x.nm.toList == t.nm.toList
theorem dup_snoc (l : List Ti) (x t : Ti) : dupB (l ++ [x]) t = (dupB l t || (x.nm.toList == t.nm.toList)) := by simp [dupB]
/-- A tier does not fit behind the one ahead of it. -/
def badTwo (o t : Ti) : Bool := decide (t.ev ≤ o.ev) || (!(t.ev.tmod o.ev == 0) || decide (t.kp < o.kp))
theorem badTwo_no {o t : Ti} (h1 : o.ev < t.ev) (h2 : t.ev % o.ev = 0) (h3 : o.kp ≤ t.kp) (ht : 1 ≤ t.ev) : badTwo o t = false := by
  unfold badTwo
  rw [Int.tmod_eq_emod_of_nonneg (by omega), decide_eq_false (by omega), h2, decide_eq_false (by omega)]; rfl
theorem badTwo_yes {o t : Ti} (h : t.ev ≤ o.ev ∨ ¬ t.ev % o.ev = 0 ∨ t.kp < o.kp) (ht : 1 ≤ t.ev) : badTwo o t = true := by
  unfold badTwo
  rw [Int.tmod_eq_emod_of_nonneg (by omega)]
  rcases h with h | h | h
  · rw [decide_eq_true h]; rfl
  · rw [beq_eq_false_iff_ne.2 h]; simp
  · rw [decide_eq_true h]; simp
/-- Tier i may not be. -/
def badAt (ts : List Ti) (i : Nat) : Bool := match ts[i]? with
  | none => false
  | some t => (badOne t || dupB (ts.take i) t) || (if i = 0 then !(t.ev == 1) else match ts[i - 1]? with | none => false | some o => badTwo o t)
/-- What the reference answers: an error's number, and the first tier that may not be. -/
def checkR (nm : List UInt8) (ts : List Ti) : Int × Int :=
  if (!validB nm || (decide (ts.length < 1) || decide (5 < ts.length))) = true then (23, 0) else
  match (List.range ts.length).find? (badAt ts) with
  | some i => (23, i + 1)
  | none => (0, 0)
theorem find_first {n : Nat} {p : Nat → Bool} {j : Nat} (hj : j < n) (h : p j = true) (ha : ∀ i, i < j → p i = false) : (List.range n).find? p = some j := by
  rw [List.find?_range_eq_some]
  exact ⟨h, List.mem_range.2 hj, fun i hi => by rw [ha i hi]; rfl⟩
theorem find_no {n : Nat} {p : Nat → Bool} (ha : ∀ i, i < n → p i = false) : (List.range n).find? p = none := by
  rw [List.find?_eq_none]
  intro i hi
  rw [ha i (List.mem_range.1 hi)]; simp
set_option maxRecDepth 100000 in
set_option maxHeartbeats 8000000 in
theorem refCheck_any (nm : ByteArray) (A : Option Addr) (n c : Nat) (ts : List Ti) (w : World) (hnm : nm.size ≤ maxLen) (h : Tis w A n ts) :
    Calls Tryz.prog 8 #[polV nm A n c] w fun e w' => e = .returned (.tuple #[.int .i64 (checkR nm.toList ts).1, .int .i64 (checkR nm.toList ts).2]) ∧ Below w.heap.size w w' := by
  have hn := h.n_le
  unfold maxLen at hn
  have hln := h.len
  have hb0 : Below w.heap.size w (w.alloc (.cells #[.string nm, .slice A n c] 24)) := (Below.refl _ w).alloc (Nat.le_refl _) _
  cases hv : validB nm.toList
  · have HF := Lib.hid (show checkR nm.toList ts = (23, 0) from by unfold checkR; rw [hv]; rfl)
    have HN := Lib.hid (fun W => refName_any nm W hnm)
    rw [hv] at HN
    clear h
    go_enter Tryz.func8, Tryz.ntmps8
    go_wp2_with fail
    refine (HN.out _).mono ?_
    rintro e w1 ⟨rfl, rfl⟩
    go_wp2
    go_ret2
    exact ⟨by rw [HF.out]; rfl, hb0⟩
  by_cases h1 : n < 1
  · have HF := Lib.hid (show checkR nm.toList ts = (23, 0) from by unfold checkR; rw [hv, hln, decide_eq_true h1]; rfl)
    have HN := Lib.hid (fun W => refName_any nm W hnm)
    rw [hv] at HN
    clear h
    go_enter Tryz.func8, Tryz.ntmps8
    go_wp2_with fail
    refine (HN.out _).mono ?_
    rintro e w1 ⟨rfl, rfl⟩
    go_wp2
    go_ret2
    exact ⟨by rw [HF.out]; rfl, hb0⟩
  have hd1 : decide ((n : Int) < 1) = false := decide_eq_false (by omega)
  by_cases h2 : 5 < n
  · have HF := Lib.hid (show checkR nm.toList ts = (23, 0) from by unfold checkR; rw [hv, hln, decide_eq_true h2]; simp)
    have HN := Lib.hid (fun W => refName_any nm W hnm)
    rw [hv] at HN
    clear h
    go_enter Tryz.func8, Tryz.ntmps8
    go_wp2_with fail
    refine (HN.out _).mono ?_
    rintro e w1 ⟨rfl, rfl⟩
    go_wp2
    go_ret2
    exact ⟨by rw [HF.out]; rfl, hb0⟩
  have hd2 : decide (5 < (n : Int)) = false := decide_eq_false (by omega)
  have HF := Lib.hid (show checkR nm.toList ts = match (List.range n).find? (badAt ts) with | some i => (23, (i : Int) + 1) | none => (0, 0) from by
    unfold checkR; rw [hv, hln, decide_eq_false h1, decide_eq_false h2]; rfl)
  have HN := Lib.hid (fun W => refName_any nm W hnm)
  rw [hv] at HN
  have HT := Lib.hid h
  have b0 := Bx.new w 24 #[.string nm, .slice A n c]
  clear h
  go_enter Tryz.func8, Tryz.ntmps8
  go_wp2_with fail
  refine (HN.out _).mono ?_
  rintro e w1 ⟨rfl, rfl⟩
  go_wp2_with fail
  go_loopw [4, 5, 6, 7, 8] (fun i _ _ _ _ wr => ∃ j : Nat, j ≤ n ∧ i = .int .i64 j ∧ Hid (∀ i, i < j → badAt ts i = false) ∧ Bx wr w.heap.size 24 #[.string nm, .slice A n c] ∧ Below w.heap.size w wr) (fun i _ _ _ _ _ => n - (intOf i).toNat)
  case atStart => exact ⟨0, Nat.zero_le _, rfl, Lib.hid (fun i hi => absurd hi (by omega)), b0, hb0⟩
  case round =>
    clear b0 hb0
    obtain ⟨j, hj, rfl, HA, bx, hbr⟩ := hrel
    by_cases hlt : j < n
    · have K : j < ts.length := by rw [hln]; exact hlt
      have HBAD := Lib.hid (show badAt ts j = ((badOne (ts[j]'K) || dupB (ts.take j) (ts[j]'K)) || (if j = 0 then !((ts[j]'K).ev == 1) else match ts[j - 1]? with | none => false | some o => badTwo o (ts[j]'K))) from by
        unfold badAt; rw [List.getElem?_eq_getElem K])
      have hok := HT.out.ok _ (List.getElem_mem K)
      obtain ⟨b, off, rfl, hbl, X⟩ := (HT.out.below hbr).get K
      have q0 := bx.at_ 0 rfl
      have q1 := bx.at_ 1 rfl
      obtain ⟨x0, x1, x2, x3⟩ := X
      have hbx := (Below.refl wr.heap.size wr).alloc (Nat.le_refl _) (.cells #[.string (ts[j]'K).nm, .int .i64 (ts[j]'K).ev, .int .i64 (ts[j]'K).kp, .int .i64 (ts[j]'K).sh] 49)
      have XB := Bx.new wr 49 #[.string (ts[j]'K).nm, .int .i64 (ts[j]'K).ev, .int .i64 (ts[j]'K).kp, .int .i64 (ts[j]'K).sh]
      have bx1 := bx.below hbx
      have hbr1 := hbr.trans (hbx.mono hbr.size)
      have HNX := Lib.hid (fun W => refName_any (ts[j]'K).nm W hok.nm)
      generalize (ts[j]'K) = x at *
      have g0 : (0 : Int) ≤ (j : Int) := by omega
      have g1 : (j : Int) < (n : Int) := by omega
      go_upto_region 7 with fail
      generalize wr.alloc (.cells #[.string x.nm, .int .i64 x.ev, .int .i64 x.kp, .int .i64 x.sh] 49) = w2 at *
      clear q0 q1 x0 x1 x2 x3 hbx bx hbr
      have y0 := XB.at_ 0 rfl
      have y1 := XB.at_ 1 rfl
      have y2 := XB.at_ 2 rfl
      have y3 := XB.at_ 3 rfl
      go_cut [6] (fun s6 wx => s6 = .bool (badOne x) ∧ wx = w2)
      case first =>
        cases hvx : validB x.nm.toList
        · have HB1 := Lib.hid (show badOne x = true from by unfold badOne; rw [hvx]; rfl)
          rw [hvx] at HNX
          go_wp2_with (go_at_call 22; refine (HNX.out _).mono ?_; rintro e w3 ⟨rfl, rfl⟩)
          go_meet
          exact ⟨by rw [HB1.out], rfl⟩
        · have HB1 := Lib.hid (show badOne x = (decide (x.kp < 1) || (decide (1000000 < x.kp) || (decide (x.sh < 1) || (decide (8 < x.sh) || (decide (x.ev < 1) || decide (1000000 < x.ev)))))) from by unfold badOne; rw [hvx]; rfl)
          rw [hvx] at HNX
          go_wp2_with (go_at_call 22; refine (HNX.out _).mono ?_; rintro e w3 ⟨rfl, rfl⟩)
          all_goals
            go_meet
            refine ⟨?_, rfl⟩
            rw [HB1.out]
            first | rfl | (congr 1; rw [Bool.eq_iff_iff]; simp only [Bool.or_eq_true, decide_eq_true_eq, true_iff]; omega)
      case rest =>
        obtain ⟨rfl, rfl⟩ := hcut
        obtain ⟨b1, hb1⟩ : ∃ b1, badOne x = b1 := ⟨_, rfl⟩
        rw [hb1] at HBAD ⊢
        have HB1 := Lib.hid hb1
        clear hb1 HNX
        go_wp2_with fail
        go_loopw [6, 7] (fun s6 i wx => ∃ k : Nat, k ≤ j ∧ i = .int .i64 k ∧ s6 = .bool (b1 || dupB (ts.take k) x) ∧ Bx wx wr.heap.size 49 #[.string x.nm, .int .i64 x.ev, .int .i64 x.kp, .int .i64 x.sh] ∧ Bx wx w.heap.size 24 #[.string nm, .slice (some ⟨b, off, none⟩) n c] ∧ Below w.heap.size w wx) (fun _ i _ => j - (intOf i).toNat)
        case atStart => exact ⟨0, Nat.zero_le _, rfl, by simp [dupB], XB, bx1, hbr1⟩
        case round =>
          clear XB bx1 hbr1 y0 y1 y2 y3
          obtain ⟨k, hk, rfl, rfl, XB, bx, hbr⟩ := hrel
          have y0 := XB.at_ 0 rfl
          have y1 := XB.at_ 1 rfl
          have y2 := XB.at_ 2 rfl
          have y3 := XB.at_ 3 rfl
          have q0 := bx.at_ 0 rfl
          have q1 := bx.at_ 1 rfl
          by_cases hkj : k < j
          · have K2 : k < ts.length := by omega
            have HD := Lib.hid (show dupB (ts.take (k + 1)) x = (dupB (ts.take k) x || ((ts[k]'K2).nm.toList == x.nm.toList)) from by rw [List.take_succ_eq_append_getElem K2, dup_snoc])
            obtain ⟨b', off', e', _, Z⟩ := (HT.out.below hbr).get K2
            cases e'
            have z0 := Z.c0
            generalize (ts[k]'K2) = u at *
            have g2 : (0 : Int) ≤ (k : Int) := by omega
            have g3 : (k : Int) < (n : Int) := by omega
            obtain ⟨b2, hb2⟩ : ∃ b2, (b1 || dupB (ts.take k) x) = b2 := ⟨_, rfl⟩
            rw [hb2]
            have HB2 := Lib.hid hb2
            clear hb2 Z
            cases b2
            · cases he : (u.nm.toList == x.nm.toList)
              · have HN := Lib.hid (show (b1 || dupB (ts.take (k + 1)) x) = false from by rw [HD.out, ← Bool.or_assoc, HB2.out, he]; rfl)
                go_wp2
                go_quiet (fail)
                go_wp2
                go_roundw
                case rel => exact ⟨k + 1, by omega, by go_num, by rw [HN.out], XB.below (below_drewN (Below.refl _ _) _), bx.below (below_drewN (Below.refl _ _) _), below_drewN hbr _⟩
                case measure => simp [intOf]; omega
              · have HN := Lib.hid (show (b1 || dupB (ts.take (k + 1)) x) = true from by rw [HD.out, ← Bool.or_assoc, HB2.out, he]; rfl)
                go_wp2
                go_quiet (fail)
                go_wp2
                go_roundw
                case rel => exact ⟨k + 1, by omega, by go_num, by rw [HN.out], XB.below (below_drewN (Below.refl _ _) _), bx.below (below_drewN (Below.refl _ _) _), below_drewN hbr _⟩
                case measure => simp [intOf]; omega
            · have HN := Lib.hid (show (b1 || dupB (ts.take (k + 1)) x) = true from by rw [HD.out, ← Bool.or_assoc, HB2.out]; rfl)
              go_wp2
              go_quiet (fail)
              go_wp2
              go_roundw
              case rel => exact ⟨k + 1, by omega, by go_num, by rw [HN.out], XB.below (below_drewN (Below.refl _ _) _), bx.below (below_drewN (Below.refl _ _) _), below_drewN hbr _⟩
              case measure => simp [intOf]; omega
          · have hkk : k = j := by omega
            subst hkk
            obtain ⟨b2, hb2⟩ : ∃ b2, (b1 || dupB (ts.take k) x) = b2 := ⟨_, rfl⟩
            rw [hb2] at HBAD
            rw [hb2]
            have HB2 := Lib.hid hb2
            clear hb2
            have HRET := Lib.hid (show badAt ts k = true → checkR nm.toList ts = (23, (k : Int) + 1) from fun e => by rw [HF.out, find_first hlt e HA.out])
            have HNXT := Lib.hid (show badAt ts k = false → ∀ i, i < k + 1 → badAt ts i = false from fun e i hi => by
              by_cases e2 : i = k
              · rw [e2]; exact e
              · exact HA.out i (by omega))
            by_cases hk0 : k = 0
            · subst hk0
              cases b2
              · by_cases he : x.ev = 1
                · have HN := Lib.hid (HNXT.out (by rw [HBAD.out, he]; rfl))
                  have he' : (x.ev == 1) = true := beq_iff_eq.2 he
                  clear he
                  go_wp2
                  go_roundw
                  case rel => exact ⟨0 + 1, by omega, by go_num, HN, bx, hbr⟩
                  case measure => simp [intOf]; omega
                · have he' : (x.ev == 1) = false := beq_eq_false_iff_ne.2 he
                  have HR := Lib.hid (HRET.out (by rw [HBAD.out, he']; rfl))
                  clear he
                  go_wp2
                  go_ret2
                  exact ⟨by rw [HR.out]; rfl, hbr⟩
              · have HR := Lib.hid (HRET.out (by rw [HBAD.out]; rfl))
                go_wp2
                go_ret2
                exact ⟨by rw [HR.out]; rfl, hbr⟩
            · have hk1 : 0 < k := by omega
              have K3 : k - 1 < ts.length := by omega
              have HBT := Lib.hid (show badAt ts k = (b2 || badTwo (ts[k - 1]'K3) x) from by rw [HBAD.out, if_neg hk0, List.getElem?_eq_getElem K3])
              have hprev := HA.out (k - 1) (by omega)
              have hone : badOne (ts[k - 1]'K3) = false := by
                unfold badAt at hprev
                rw [List.getElem?_eq_getElem K3] at hprev
                simp only [Bool.or_eq_false_iff] at hprev
                exact hprev.1.1
              have hob : 1 ≤ (ts[k - 1]'K3).ev ∧ (ts[k - 1]'K3).ev ≤ 1000000 := by
                unfold badOne at hone
                simp only [Bool.or_eq_false_iff, decide_eq_false_iff_not] at hone
                omega
              obtain ⟨b', off', e', _, Z⟩ := (HT.out.below hbr).get K3
              cases e'
              obtain ⟨z0, z1, z2, z3⟩ := Z
              have hci : ((k : Int) == 0) = false := beq_eq_false_iff_ne.2 (by omega)
              have hsub : ((k - 1 : Nat) : Int) = (k : Int) - 1 := by omega
              have HSUB := Lib.hid hsub
              have g2 : (0 : Int) ≤ (k : Int) - 1 := by omega
              have g3 : (k : Int) - 1 < (n : Int) := by omega
              have ht1 : ((k : Int) - 1).toNat = k - 1 := by omega
              have hba := (Below.refl wr.heap.size wr).alloc (Nat.le_refl _) (.cells #[.string (ts[k - 1]'K3).nm, .int .i64 (ts[k - 1]'K3).ev, .int .i64 (ts[k - 1]'K3).kp, .int .i64 (ts[k - 1]'K3).sh] 49)
              have bx3 := bx.below hba
              have hbr3 := hbr.trans (hba.mono hbr.size)
              have XB3 := XB.below hba
              have u1 := XB3.at_ 1 rfl
              have u2 := XB3.at_ 2 rfl
              clear hprev hone hsub hba XB3 HBAD hk0
              generalize (ts[k - 1]'K3) = o at *
              obtain ⟨ho1, ho2⟩ := hob
              have hone : o.ev ≠ 0 := by omega
              cases b2
              · have hxb : 1 ≤ x.ev := by
                  have h5 := HB2.out
                  rw [Bool.or_eq_false_iff] at h5
                  have h6 := HB1.out.trans h5.1
                  unfold badOne at h6
                  simp only [Bool.or_eq_false_iff, decide_eq_false_iff_not] at h6
                  omega
                have HYES := Lib.hid (fun h => badTwo_yes (o := o) (t := x) h hxb)
                have HNO := Lib.hid (fun h1 h2 h3 => badTwo_no (o := o) (t := x) h1 h2 h3 hxb)
                go_wp2
                all_goals
                  first
                    | (have HN := Lib.hid (HNXT.out (by rw [HBT.out, HNO.out (by omega) (by omega) (by omega)]; rfl))
                       go_roundw
                       case rel => exact ⟨k + 1, by omega, by go_num, HN, bx3, hbr3⟩
                       case measure => simp [intOf]; omega)
                    | (have HR := Lib.hid (HRET.out (by rw [HBT.out, HYES.out (by omega)]; rfl))
                       go_ret2
                       exact ⟨by rw [HR.out]; rfl, hbr3⟩)
              · have HR := Lib.hid (HRET.out (by rw [HBT.out]; rfl))
                go_wp2
                go_ret2
                exact ⟨by rw [HR.out]; rfl, hbr3⟩
    · have hje : j = n := by omega
      subst hje
      have HR := Lib.hid (show checkR nm.toList ts = (0, 0) from by rw [HF.out, find_no HA.out])
      have q1 := bx.at_ 1 rfl
      go_wp2
      go_ret2
      exact ⟨by rw [HR.out]; rfl, hbr⟩
end Go.Proofs.YtnnamhomapagiaaGreatDoor
