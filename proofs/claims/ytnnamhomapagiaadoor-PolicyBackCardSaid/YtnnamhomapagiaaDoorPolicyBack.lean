/-
  PolicyBack: its walk.
-/
import Derived.Test.YtnnamhomapagiaaDoorPolTwice
import Derived.Test.YtnnamhomapagiaaDoorRulesLaws
namespace Go.Proofs.YtnnamhomapagiaaDoor
open Go.ChangeShapes Go.WideShapes Go.ChangeAt Go.RowKit Go.Deep

set_option maxRecDepth 100000 in
set_option maxHeartbeats 4000000 in
theorem walk_PolicyBack {v0 : Value} (x : ByteArray × Option Addr × Nat × Nat × List Ti) (text : ByteArray) (w : World) (hm : ∃ m : Int, w.cell? ⟨0, 0, none⟩ = some (.int .i64 m)) (htab : Lib.TabIs Tryd.prog w "internal/strconv.uint64pow10" .u64 Lib.pow10Tab)
    (hx : PolArg w v0 x) (htx : text.size ≤ maxLen) :
    Calls Tryd.prog 3 #[v0, .string text] w fun e w' => e = .returned (.bool true) ∧ Below w.heap.size w w' := by
  obtain ⟨nm, A, n, c, ts⟩ := x
  obtain ⟨rfl, hnm, hts, hc⟩ := hx
  simp only at hnm hts hc ⊢
  have hlt0 : 0 < w.heap.size := by obtain ⟨m, h⟩ := hm; have := block_lt_of_cell h; simpa using this
  have HM := Lib.hid (fun W (hW : Below w.heap.size w W) => hm.imp fun m h => (hW.cell (p := ⟨0, 0, none⟩) hlt0).trans h)
  have HTAB := Lib.hid (fun W (hW : Below w.heap.size w W) => Lib.tabBelow_of_tabIs htab W hW)
  have HALIVE := Lib.hid (fun W (hW : Below w.heap.size w W) => alive_any W (HM.out W hW) (HTAB.out W hW))
  have HT := Lib.hid hts
  have HNM := Lib.hid hnm
  clear hm htab hlt0 hts hnm
  have hb0 : Below w.heap.size w (w.alloc (.cells #[.string nm, .slice A n c] 24)) := (Below.refl _ _).alloc (Nat.le_refl _) _
  have bp := Bx.new w 24 #[.string nm, .slice A n c]
  have p0 := bp.at_ 0 rfl
  have p1 := bp.at_ 1 rfl
  have HPR := Lib.hid (fun W (hW : Below w.heap.size w W) => print_any nm A n c ts W HNM.out (HT.out.below hW) hc (HTAB.out W hW))
  have HRT := Lib.hid (fun W (hW : Below w.heap.size w W) => read_any text W htx (HM.out W hW))
  clear htx
  by_cases h4 : 4000 < text.size
  · have h4' : decide (4000 < (text.size : Int)) = true := decide_eq_true (by omega)
    go_enter Tryd.func3, Tryd.ntmps3
    go_wp2_with (first
      | (go_at_call 8; refine (small_any nm A n c ts _ HNM.out (HT.out.below hb0)).mono ?_; rintro e w2 ⟨b1, rfl, _, hb2⟩
         have hbx := hb0.trans (hb2.mono hb0.size))
      | (go_at_call 9; refine (HALIVE.out _ hbx).mono ?_; rintro e w5 ⟨rfl, hb5⟩
         have hfin := hbx.trans (hb5.mono hbx.size)))
    all_goals
      go_ret
      exact ⟨rfl, hfin⟩
  have h4' : decide (4000 < (text.size : Int)) = false := decide_eq_false (by omega)
  clear h4
  rcases checkR_cases nm.toList ts with hck | ⟨h23, _, _⟩
  · cases hR : readT text with
    | good nm2 us =>
      have hck2 : checkR (⟨nm2.toArray⟩ : ByteArray).toList us = (0, 0) := by rw [toList_mk]; exact readT_good hR
      have hul : us.length ≤ 5 := (check_fine hck2).2.2.1
      rw [hR] at HRT
      unfold ParseSays at HRT
      clear hR
      go_enter Tryd.func3, Tryd.ntmps3
      go_wp2_with (first
        | (go_at_call 8; refine (small_any nm A n c ts _ HNM.out (HT.out.below hb0)).mono ?_; rintro e w2 ⟨b1, rfl, _, hb2⟩
           have hbx := hb0.trans (hb2.mono hb0.size)
           have bpx := bp.below hb2
           have p0 := bpx.at_ 0 rfl
           have p1 := bpx.at_ 1 rfl)
        | (go_at_call 10; (with_reducible refine (printP_any nm A n c ts _ hck (HT.out.below hbx) hc (HTAB.out _ hbx)).mono ?_); rintro e w3 ⟨rfl, hb3⟩
           have hbx := hbx.trans (hb3.mono hbx.size)
           have bpx := bpx.below hb3)
        | (go_at_call 11; (with_reducible refine (readP_any nm ts _ hck (HM.out _ hbx)).mono ?_); rintro e w4 ⟨⟨A1, c1, rfl, T1, hc1⟩, hb4⟩
           have hba4 := hb4.trans ((Below.refl w4.heap.size w4).alloc (Nat.le_refl _) (.cells #[.string nm, .slice A1 ts.length c1] 24) |>.mono hb4.size)
           have hbx := hbx.trans (hba4.mono hbx.size)
           have bpx := bpx.below hba4
           have TT1 := Lib.hid (T1.below ((Below.refl w4.heap.size w4).alloc (Nat.le_refl _) (.cells #[.string nm, .slice A1 ts.length c1] 24)))
           have p0 := bpx.at_ 0 rfl
           have p1 := bpx.at_ 1 rfl)
        | (go_at_call 12; (with_reducible refine (refSame_any nm A A1 n ts.length c c1 ts _ (HT.out.below hbx) TT1.out).mono ?_); rintro e w6 ⟨rfl, hb6⟩
           have hbx := hbx.trans (hb6.mono hbx.size))
        | (go_at_call 11; (with_reducible refine (HRT.out _ hbx).mono ?_); rintro e w7 ⟨⟨A2, c2, rfl, hown2, hok2, _, _⟩, hb7⟩
           have hal7 := (Below.refl w7.heap.size w7).alloc (Nat.le_refl _) (.cells #[.string ⟨nm2.toArray⟩, .slice A2 us.length c2] 24)
           have T2 : Tis w7 A2 us.length us := by obtain ⟨A', c', e, hh⟩ := own_tis hown2 rfl hok2 (by unfold maxLen; omega); cases e; exact hh
           have hc2 : us.length ≤ c2 := by obtain ⟨_, _, e, h, _⟩ := own_slice hown2; cases e; exact h
           have TT2 := Lib.hid (T2.below hal7)
           have hba7 := hb7.trans (hal7.mono hb7.size)
           have hbx := hbx.trans (hba7.mono hbx.size)
           have bqx := Bx.new w7 24 #[.string ⟨nm2.toArray⟩, .slice A2 us.length c2]
           have r0 := bqx.at_ 0 rfl
           have r1 := bqx.at_ 1 rfl
           clear hown2)
        | (go_at_call 10; (with_reducible refine (printP_any ⟨nm2.toArray⟩ A2 us.length c2 us _ hck2 TT2.out hc2 (HTAB.out _ hbx)).mono ?_); rintro e w8 ⟨rfl, hb8⟩
           have hbx := hbx.trans (hb8.mono hbx.size)
           have bqx := bqx.below hb8
           have TT3 := Lib.hid (TT2.out.below hb8))
        | (go_at_call 11; (with_reducible refine (readL_any nm2 us _ hck2 (HM.out _ hbx)).mono ?_); rintro e w9 ⟨⟨A3, c3, rfl, T3, hc3⟩, hb9⟩
           have hal9 := (Below.refl w9.heap.size w9).alloc (Nat.le_refl _) (.cells #[.string ⟨nm2.toArray⟩, .slice A3 us.length c3] 24)
           have hba9 := hb9.trans (hal9.mono hb9.size)
           have hbx := hbx.trans (hba9.mono hbx.size)
           have bqx := bqx.below hba9
           have brx := Bx.new w9 24 #[.string ⟨nm2.toArray⟩, .slice A3 us.length c3]
           have TT4 := Lib.hid (TT3.out.below hba9)
           have TT5 := Lib.hid (T3.below hal9)
           have s0 := brx.at_ 0 rfl
           have s1 := brx.at_ 1 rfl)
        | (go_at_call 10; (with_reducible refine (printP_any ⟨nm2.toArray⟩ A3 us.length c3 us _ hck2 TT5.out hc3 (HTAB.out _ hbx)).mono ?_); rintro e w10 ⟨rfl, hb10⟩
           have hbx := hbx.trans (hb10.mono hbx.size)
           have bqx := bqx.below hb10
           have brx := brx.below hb10
           have TT6 := Lib.hid (TT4.out.below hb10)
           have TT7 := Lib.hid (TT5.out.below hb10))
        | (go_at_call 9; refine (HALIVE.out _ hbx).mono ?_; rintro e w11 ⟨rfl, hb11⟩
           have hfin := hbx.trans (hb11.mono hbx.size)
           try (have bqx := bqx.below hb11
                have brx := brx.below hb11
                have TT8 := Lib.hid (TT6.out.below hb11)
                have TT9 := Lib.hid (TT7.out.below hb11)
                have r0 := bqx.at_ 0 rfl
                have r1 := bqx.at_ 1 rfl
                have s0 := brx.at_ 0 rfl
                have s1 := brx.at_ 1 rfl))
        | (go_at_call 12; refine (refSame_any ⟨nm2.toArray⟩ A2 A3 us.length us.length c2 c3 us _ TT8.out TT9.out).mono ?_; rintro e w12 ⟨rfl, hb12⟩
           have hfin := hfin.trans (hb12.mono hfin.size)))
      all_goals
        go_ret
        exact ⟨rfl, hfin⟩
    | bad k at_ =>
      have hk := readT_bad hR
      have hk' : (k != 0) = true := bne_iff_ne.2 hk
      rw [hR] at HRT
      unfold ParseSays at HRT
      clear hR hk
      go_enter Tryd.func3, Tryd.ntmps3
      go_wp2_with (first
        | (go_at_call 8; refine (small_any nm A n c ts _ HNM.out (HT.out.below hb0)).mono ?_; rintro e w2 ⟨b1, rfl, _, hb2⟩
           have hbx := hb0.trans (hb2.mono hb0.size)
           have bpx := bp.below hb2
           have p0 := bpx.at_ 0 rfl
           have p1 := bpx.at_ 1 rfl)
        | (go_at_call 10; (with_reducible refine (printP_any nm A n c ts _ hck (HT.out.below hbx) hc (HTAB.out _ hbx)).mono ?_); rintro e w3 ⟨rfl, hb3⟩
           have hbx := hbx.trans (hb3.mono hbx.size)
           have bpx := bpx.below hb3)
        | (go_at_call 11; (with_reducible refine (readP_any nm ts _ hck (HM.out _ hbx)).mono ?_); rintro e w4 ⟨⟨A1, c1, rfl, T1, hc1⟩, hb4⟩
           have hba4 := hb4.trans ((Below.refl w4.heap.size w4).alloc (Nat.le_refl _) (.cells #[.string nm, .slice A1 ts.length c1] 24) |>.mono hb4.size)
           have hbx := hbx.trans (hba4.mono hbx.size)
           have bpx := bpx.below hba4
           have TT1 := Lib.hid (T1.below ((Below.refl w4.heap.size w4).alloc (Nat.le_refl _) (.cells #[.string nm, .slice A1 ts.length c1] 24)))
           have p0 := bpx.at_ 0 rfl
           have p1 := bpx.at_ 1 rfl)
        | (go_at_call 12; (with_reducible refine (refSame_any nm A A1 n ts.length c c1 ts _ (HT.out.below hbx) TT1.out).mono ?_); rintro e w6 ⟨rfl, hb6⟩
           have hbx := hbx.trans (hb6.mono hbx.size))
        | (go_at_call 11; (with_reducible refine (HRT.out _ hbx).mono ?_); rintro e w7 ⟨rfl, hb7⟩
           have hal7 := (Below.refl w7.heap.size w7).alloc (Nat.le_refl _) (.cells #[.string ByteArray.empty, .slice none 0 0] 24)
           have hba7 := hb7.trans (hal7.mono hb7.size)
           have hbx := hbx.trans (hba7.mono hbx.size)
           have bqx := Bx.new w7 24 #[.string ByteArray.empty, .slice none 0 0])
        | (go_at_call 9; refine (HALIVE.out _ hbx).mono ?_; rintro e w11 ⟨rfl, hb11⟩
           have hfin := hbx.trans (hb11.mono hbx.size)
           try (have bqx := bqx.below hb11
                have r0 := bqx.at_ 0 rfl
                have r1 := bqx.at_ 1 rfl)))
      all_goals
        go_ret
        exact ⟨rfl, hfin⟩
  · have hz : (checkR nm.toList ts).1 ≠ 0 := by omega
    have hz' : ((checkR nm.toList ts).1 == 0) = false := beq_eq_false_iff_ne.2 hz
    clear hz h23
    cases hR : readT text with
    | good nm2 us =>
      have hck2 : checkR (⟨nm2.toArray⟩ : ByteArray).toList us = (0, 0) := by rw [toList_mk]; exact readT_good hR
      have hul : us.length ≤ 5 := (check_fine hck2).2.2.1
      rw [hR] at HRT
      unfold ParseSays at HRT
      clear hR
      go_enter Tryd.func3, Tryd.ntmps3
      go_wp2_with (first
        | (go_at_call 8; refine (small_any nm A n c ts _ HNM.out (HT.out.below hb0)).mono ?_; rintro e w2 ⟨b1, rfl, _, hb2⟩
           have hbx := hb0.trans (hb2.mono hb0.size)
           have bpx := bp.below hb2
           have p0 := bpx.at_ 0 rfl
           have p1 := bpx.at_ 1 rfl)
        | (go_at_call 10; (with_reducible refine (HPR.out _ hbx).mono ?_); rintro e w3 ⟨rfl, hb3⟩
           have hbx := hbx.trans (hb3.mono hbx.size))
        | (go_at_call 11; (with_reducible refine (HRT.out _ hbx).mono ?_); rintro e w7 ⟨⟨A2, c2, rfl, hown2, hok2, _, _⟩, hb7⟩
           have hal7 := (Below.refl w7.heap.size w7).alloc (Nat.le_refl _) (.cells #[.string ⟨nm2.toArray⟩, .slice A2 us.length c2] 24)
           have T2 : Tis w7 A2 us.length us := by obtain ⟨A', c', e, hh⟩ := own_tis hown2 rfl hok2 (by unfold maxLen; omega); cases e; exact hh
           have hc2 : us.length ≤ c2 := by obtain ⟨_, _, e, h, _⟩ := own_slice hown2; cases e; exact h
           have TT2 := Lib.hid (T2.below hal7)
           have hba7 := hb7.trans (hal7.mono hb7.size)
           have hbx := hbx.trans (hba7.mono hbx.size)
           have bqx := Bx.new w7 24 #[.string ⟨nm2.toArray⟩, .slice A2 us.length c2]
           have r0 := bqx.at_ 0 rfl
           have r1 := bqx.at_ 1 rfl
           clear hown2)
        | (go_at_call 10; (with_reducible refine (printP_any ⟨nm2.toArray⟩ A2 us.length c2 us _ hck2 TT2.out hc2 (HTAB.out _ hbx)).mono ?_); rintro e w8 ⟨rfl, hb8⟩
           have hbx := hbx.trans (hb8.mono hbx.size)
           have bqx := bqx.below hb8
           have TT3 := Lib.hid (TT2.out.below hb8))
        | (go_at_call 11; (with_reducible refine (readL_any nm2 us _ hck2 (HM.out _ hbx)).mono ?_); rintro e w9 ⟨⟨A3, c3, rfl, T3, hc3⟩, hb9⟩
           have hal9 := (Below.refl w9.heap.size w9).alloc (Nat.le_refl _) (.cells #[.string ⟨nm2.toArray⟩, .slice A3 us.length c3] 24)
           have hba9 := hb9.trans (hal9.mono hb9.size)
           have hbx := hbx.trans (hba9.mono hbx.size)
           have bqx := bqx.below hba9
           have brx := Bx.new w9 24 #[.string ⟨nm2.toArray⟩, .slice A3 us.length c3]
           have TT4 := Lib.hid (TT3.out.below hba9)
           have TT5 := Lib.hid (T3.below hal9)
           have s0 := brx.at_ 0 rfl
           have s1 := brx.at_ 1 rfl)
        | (go_at_call 10; (with_reducible refine (printP_any ⟨nm2.toArray⟩ A3 us.length c3 us _ hck2 TT5.out hc3 (HTAB.out _ hbx)).mono ?_); rintro e w10 ⟨rfl, hb10⟩
           have hbx := hbx.trans (hb10.mono hbx.size)
           have bqx := bqx.below hb10
           have brx := brx.below hb10
           have TT6 := Lib.hid (TT4.out.below hb10)
           have TT7 := Lib.hid (TT5.out.below hb10))
        | (go_at_call 9; refine (HALIVE.out _ hbx).mono ?_; rintro e w11 ⟨rfl, hb11⟩
           have hfin := hbx.trans (hb11.mono hbx.size)
           try (have bqx := bqx.below hb11
                have brx := brx.below hb11
                have TT8 := Lib.hid (TT6.out.below hb11)
                have TT9 := Lib.hid (TT7.out.below hb11)
                have r0 := bqx.at_ 0 rfl
                have r1 := bqx.at_ 1 rfl
                have s0 := brx.at_ 0 rfl
                have s1 := brx.at_ 1 rfl))
        | (go_at_call 12; refine (refSame_any ⟨nm2.toArray⟩ A2 A3 us.length us.length c2 c3 us _ TT8.out TT9.out).mono ?_; rintro e w12 ⟨rfl, hb12⟩
           have hfin := hfin.trans (hb12.mono hfin.size)))
      all_goals
        go_ret
        exact ⟨rfl, hfin⟩
    | bad k at_ =>
      have hk := readT_bad hR
      have hk' : (k != 0) = true := bne_iff_ne.2 hk
      rw [hR] at HRT
      unfold ParseSays at HRT
      clear hR hk
      go_enter Tryd.func3, Tryd.ntmps3
      go_wp2_with (first
        | (go_at_call 8; refine (small_any nm A n c ts _ HNM.out (HT.out.below hb0)).mono ?_; rintro e w2 ⟨b1, rfl, _, hb2⟩
           have hbx := hb0.trans (hb2.mono hb0.size)
           have bpx := bp.below hb2
           have p0 := bpx.at_ 0 rfl
           have p1 := bpx.at_ 1 rfl)
        | (go_at_call 10; (with_reducible refine (HPR.out _ hbx).mono ?_); rintro e w3 ⟨rfl, hb3⟩
           have hbx := hbx.trans (hb3.mono hbx.size))
        | (go_at_call 11; (with_reducible refine (HRT.out _ hbx).mono ?_); rintro e w7 ⟨rfl, hb7⟩
           have hal7 := (Below.refl w7.heap.size w7).alloc (Nat.le_refl _) (.cells #[.string ByteArray.empty, .slice none 0 0] 24)
           have hba7 := hb7.trans (hal7.mono hb7.size)
           have hbx := hbx.trans (hba7.mono hbx.size)
           have bqx := Bx.new w7 24 #[.string ByteArray.empty, .slice none 0 0])
        | (go_at_call 9; refine (HALIVE.out _ hbx).mono ?_; rintro e w11 ⟨rfl, hb11⟩
           have hfin := hbx.trans (hb11.mono hbx.size)
           try (have bqx := bqx.below hb11
                have r0 := bqx.at_ 0 rfl
                have r1 := bqx.at_ 1 rfl)))
      all_goals
        go_ret
        exact ⟨rfl, hfin⟩
end Go.Proofs.YtnnamhomapagiaaDoor
