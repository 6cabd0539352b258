/-
  sedimentref6.Print and sedimentref6.Same, whatever the policies.
-/
import Derived.Test.YtnnamhomapagiaaGreatDoorPolPrint
import Derived.Test.YtnnamhomapagiaaGreatDoorRefPrint
namespace Go.Proofs.YtnnamhomapagiaaGreatDoor
open Go.ChangeShapes Go.WideShapes Go.ChangeAt Go.RowKit Go.Deep

structure RpS (w0 w : World) (bp bt : Nat) (pv tv : Array Value) : Prop where
  bp : Bx w bp 24 pv
  bt : Bx w bt 49 tv
  bel : Below w0.heap.size w0 w
section
variable {w0 w w' : World} {bp bt : Nat} {pv : Array Value} {x : Ti}
theorem RpS.below {tv : Array Value} (h : RpS w0 w bp bt pv tv) (hb : Below w.heap.size w w') : RpS w0 w' bp bt pv tv := ⟨h.bp.below hb, h.bt.below hb, h.bel.trans (hb.mono h.bel.size)⟩
theorem RpS.full (h : RpS w0 w bp bt pv #[.string x.nm, .int .i64 x.ev, .int .i64 x.kp, .int .i64 x.sh]) : RpS w0 w bp bt pv #[.string x.nm, .int .i64 x.ev, .int .i64 x.kp, .int .i64 x.sh] ∧ w.cell? ⟨bt, 0, none⟩ = some (.string x.nm) ∧ w.cell? ⟨bt, 1, none⟩ = some (.int .i64 x.ev) ∧ w.cell? ⟨bt, 2, none⟩ = some (.int .i64 x.kp) ∧ w.cell? ⟨bt, 3, none⟩ = some (.int .i64 x.sh) :=
  ⟨h, h.bt.at_ 0 rfl, h.bt.at_ 1 rfl, h.bt.at_ 2 rfl, h.bt.at_ 3 rfl⟩
end
set_option maxRecDepth 100000 in
set_option maxHeartbeats 4000000 in
theorem refPrint_any (nm : ByteArray) (A : Option Addr) (n c : Nat) (ts : List Ti) (w : World) (hnm : nm.size ≤ maxLen) (h : Tis w A n ts) :
    Calls Tryz.prog 10 #[polV nm A n c] w fun e w' => e = .returned (.tuple #[.string ⟨(printT nm.toList ts).toArray⟩, .int .i64 (checkR nm.toList ts).1]) ∧ Below w.heap.size w w' := by
  have b0 := Bx.new w 24 #[.string nm, .slice A n c]
  have hb0 : Below w.heap.size w (w.alloc (.cells #[.string nm, .slice A n c] 24)) := (Below.refl _ w).alloc (Nat.le_refl _) _
  have q0 := b0.at_ 0 rfl
  have q1 := b0.at_ 1 rfl
  have HC := Lib.hid (refCheck_any nm A n c ts _ hnm (h.below hb0))
  by_cases hz : (checkR nm.toList ts).1 = 0
  rotate_left
  · have HF := Lib.hid (show printT nm.toList ts = [] from if_neg hz)
    have hz' : ((checkR nm.toList ts).1 != 0) = true := bne_iff_ne.2 hz
    rw [HF.out]
    go_enter Tryz.func10, Tryz.ntmps10
    go_wp2_with (first
      | (go_at_call 8; refine HC.out.mono ?_; rintro e w1 ⟨rfl, hb1⟩))
    go_ret2
    exact ⟨rfl, hb0.trans (hb1.mono hb0.size)⟩
  have hck := checkR_zero hz
  obtain ⟨hv, hl1, hl5, hfine, _⟩ := check_fine hck
  have HFI := Lib.hid hfine
  have HPL := Lib.hid (fun j => print_len (ts := ts.take j) hv (fun t ht => hfine t (List.mem_of_mem_take ht)) (by rw [List.length_take]; omega))
  have hln := h.len
  have HTI := Lib.hid h
  have hns : nm.size ≤ 15 := by
    unfold validB at hv
    simp only [Bool.and_eq_true, decide_eq_true_eq] at hv
    rw [← len_toList]; exact hv.1.2
  rw [hck] at HC ⊢
  rw [show printT nm.toList ts = printL nm.toList ts from if_pos hz]
  have HP0 := Lib.hid (show ((⟨#[112, 111, 108, 105, 99, 121, 32]⟩ : ByteArray) ++ nm ++ ⟨#[10]⟩) = ⟨(printL nm.toList (ts.take 0)).toArray⟩ from by
    apply ByteArray.ext; rw [ByteArray.toList_eq]; simp [printL, sPolicy])
  clear hz hck hv hfine h
  go_enter Tryz.func10, Tryz.ntmps10
  go_wp2_with (first
    | (go_at_call 8; refine HC.out.mono ?_; rintro e w1 ⟨rfl, hb1⟩
       have bp1 := b0.below hb1
       have p0 := bp1.at_ 0 rfl
       have hbw := hb0.trans (hb1.mono hb0.size)))
  clear HC b0 hb0 q0 q1 hb1
  go_loopw [6, 7, 8] (fun s i _ wr => ∃ j : Nat, j ≤ n ∧ i = .int .i64 j ∧ s = .string ⟨(printL nm.toList (ts.take j)).toArray⟩ ∧ Bx wr w.heap.size 24 #[.string nm, .slice A n c] ∧ Below w.heap.size w wr) (fun _ i _ _ => n - (intOf i).toNat)
  case atStart => exact ⟨0, Nat.zero_le _, rfl, by rw [← HP0.out], bp1, hbw⟩
  case round =>
    clear bp1 hbw p0
    obtain ⟨j, hj, rfl, rfl, bp, hbr⟩ := hrel
    have hpl := HPL.out j
    by_cases hlt2 : j < n
    · have K : j < ts.length := by omega
      have HFX := Lib.hid (HFI.out _ (List.getElem_mem K))
      have HNX := Lib.hid (show printL nm.toList (ts.take (j + 1)) = printL nm.toList (ts.take j) ++ tierP (ts[j]'K) from by rw [List.take_succ_eq_append_getElem K, print_snoc])
      have hp1 := bp.at_ 1 rfl
      obtain ⟨b, off, rfl, hbl, X⟩ := (HTI.out.below hbr).get K
      obtain ⟨r0, r1, r2, r3⟩ := X
      generalize (ts[j]'K) = x at *
      have hxn : x.nm.size ≤ 15 := by
        have hv := HFX.out.nm
        unfold validB at hv
        simp only [Bool.and_eq_true, decide_eq_true_eq] at hv
        rw [← len_toList]; exact hv.1.2
      obtain ⟨e1, e2⟩ := HFX.out.ev
      obtain ⟨k1, k2⟩ := HFX.out.kp
      obtain ⟨s1, s2⟩ := HFX.out.sh
      have le1 : (Lib.itoa x.ev).length ≤ 7 := by rw [itoa_pos e1]; exact dec_len (by omega)
      have le2 : (Lib.itoa x.kp).length ≤ 7 := by rw [itoa_pos k1]; exact dec_len (by omega)
      have le3 : (Lib.itoa x.sh).length ≤ 7 := by rw [itoa_pos s1]; exact dec_len (by omega)
      have hbx := (Below.refl wr.heap.size wr).alloc (Nat.le_refl _) (.cells #[.string x.nm, .int .i64 x.ev, .int .i64 x.kp, .int .i64 x.sh] 49)
      have S0 : RpS w _ w.heap.size wr.heap.size _ #[.string x.nm, .int .i64 x.ev, .int .i64 x.kp, .int .i64 x.sh] := ⟨bp.below hbx, Bx.new wr 49 _, hbr.trans (hbx.mono hbr.size)⟩
      have g0 : (0 : Int) ≤ (j : Int) := by omega
      have g1 : (j : Int) < (n : Int) := by omega
      have g3 : 0 ≤ x.ev := by omega
      have g4 : 0 ≤ x.kp := by omega
      have g5 : 0 ≤ x.sh := by omega
      have S0D := S0.below (Below.refl _ _).drew
      clear bp hbx hbl
      go_upto_region 9 with fail
      generalize wr.alloc (.cells #[.string x.nm, .int .i64 x.ev, .int .i64 x.kp, .int .i64 x.sh] 49) = w4 at *
      generalize wr.heap.size = bt at *
      clear r0 r1 r2 r3 hbr hp1
      generalize printL nm.toList (ts.take j) = l at *
      have z1 : ¬ 9223372036854775807 < l.length + 5 := by omega
      have z2 : ¬ 9223372036854775807 < l.length + 5 + x.nm.size := by omega
      have z3 : ¬ 9223372036854775807 < l.length + 5 + x.nm.size + 7 := by omega
      have z4 : ¬ 9223372036854775807 < l.length + 5 + x.nm.size + 7 + (Lib.itoa x.ev).length := by omega
      have z5 : ¬ 9223372036854775807 < l.length + 5 + x.nm.size + 7 + (Lib.itoa x.ev).length + 6 := by omega
      have z6 : ¬ 9223372036854775807 < l.length + 5 + x.nm.size + 7 + (Lib.itoa x.ev).length + 6 + (Lib.itoa x.kp).length := by omega
      have z7 : ¬ 9223372036854775807 < l.length + 5 + x.nm.size + 7 + (Lib.itoa x.ev).length + 6 + (Lib.itoa x.kp).length + 8 := by omega
      have z8 : ¬ 9223372036854775807 < l.length + 5 + x.nm.size + 7 + (Lib.itoa x.ev).length + 6 + (Lib.itoa x.kp).length + 8 + (Lib.itoa x.sh).length := by omega
      have z9 : ¬ 9223372036854775807 < l.length + 5 + x.nm.size + 7 + (Lib.itoa x.ev).length + 6 + (Lib.itoa x.kp).length + 8 + (Lib.itoa x.sh).length + 1 := by omega
      go_region_held3 (fun w' => RpS w w' w.heap.size bt #[.string nm, .slice (some ⟨b, off, none⟩) n c] #[.string x.nm, .int .i64 x.ev, .int .i64 x.kp, .int .i64 x.sh] ∧ w'.cell? ⟨bt, 0, none⟩ = some (.string x.nm) ∧ w'.cell? ⟨bt, 1, none⟩ = some (.int .i64 x.ev) ∧ w'.cell? ⟨bt, 2, none⟩ = some (.int .i64 x.kp) ∧ w'.cell? ⟨bt, 3, none⟩ = some (.int .i64 x.sh))
        (first
          | assumption
          | exact S0D.full
          | (go_split_ands; exact RpS.full (by assumption))
          | (go_split_ands; exact RpS.full (RpS.below (by assumption) hbq)))
        (first
          | (go_at_call 27; go_split_ands; refine (refDigits_any _ _ (by assumption) (by omega)).mono ?_; rintro e wq ⟨rfl, hbq⟩))
      all_goals
        go_split_ands
        have S1 : RpS w wq w.heap.size bt #[.string nm, .slice (some ⟨b, off, none⟩) n c] #[.string x.nm, .int .i64 x.ev, .int .i64 x.kp, .int .i64 x.sh] := by assumption
        have HS1 := Lib.hid S1
        have HV := Lib.hid (show (⟨l.toArray⟩ : ByteArray) ++ ⟨#[116, 105, 101, 114, 32]⟩ ++ x.nm ++ ⟨#[32, 101, 118, 101, 114, 121, 32]⟩ ++ ⟨(Lib.itoa x.ev).toArray⟩ ++ ⟨#[32, 107, 101, 101, 112, 32]⟩ ++ ⟨(Lib.itoa x.kp).toArray⟩ ++ ⟨#[32, 115, 104, 97, 114, 100, 115, 32]⟩ ++ ⟨(Lib.itoa x.sh).toArray⟩ ++ ⟨#[10]⟩ = ⟨(printL nm.toList (ts.take (j + 1))).toArray⟩ from by
          rw [HNX.out]
          apply ByteArray.ext
          simp [tierP, sTier, sEvery, sKeep, sShards, ByteArray.toList_eq])
        clear S0 S0D S1 z1 z2 z3 z4 z5 z6 z7 z8 z9
        go_wp2_with fail
        go_roundw
        case rel => exact ⟨j + 1, by omega, by go_num, by rw [HV.out], HS1.out.bp, HS1.out.bel⟩
        case measure => simp [intOf]; omega
    · have hje : j = n := by omega
      subst hje
      have hd : decide ((j : Int) < (j : Int)) = false := decide_eq_false (by omega)
      rw [List.take_of_length_le (by omega)] at hpl ⊢
      have hp1 := bp.at_ 1 rfl
      go_wp2_with fail
      go_ret2
      exact ⟨rfl, hbr⟩
end Go.Proofs.YtnnamhomapagiaaGreatDoor
