/-
  Several texts in one: ViewAsk, RefRange.
-/
import Derived.Test.YtcglbbabfkbcbadGreatViewAll
import Derived.Test.YtcglbbabfkbcbadGreatViewIn
import Derived.Test.YtcglbbabfkbcbadGreatRecDelV
import Derived.Test.YtcglbbabfkbcbadGreatRefView
/- view.Ask; sedimentlaw9.Web; the first call of the statements of chapter 12. -/
namespace Go.Proofs.YtcglbbabfkbcbadGreat
open Go.ChangeShapes Go.WideShapes Go.ChangeAt Go.RowKit Go.Deep Go.Maps

/-- What a query lets go. -/
def rngP (s : ByteArray) (a b : Int) (r : Rc) : Bool := (!r.nm.toList == s.toList) || decide (r.st < a) || decide (b ≤ r.st)
set_option maxHeartbeats 1000000 in
theorem ask1_any (s : ByteArray) (a b : Int) (b0 : Nat) (r : Rc) (w : World) (h0 : w.cell? ⟨b0, 0, none⟩ = some (.string s)) (h1 : w.cell? ⟨b0 + 1, 0, none⟩ = some (.int .i64 a)) (h2 : w.cell? ⟨b0 + 1 + 1, 0, none⟩ = some (.int .i64 b)) :
    Calls Tryz.prog 38 #[r.val, .pointer (some ⟨b0, 0, none⟩), .pointer (some ⟨b0 + 1, 0, none⟩), .pointer (some ⟨b0 + 1 + 1, 0, none⟩)] w fun e w' => e = .returned (.bool (rngP s a b r)) ∧ w.grownBy w' none := by
  have l0 := World.block_lt_of_cell? w _ h0
  have l1 := World.block_lt_of_cell? w _ h1
  have l2 := World.block_lt_of_cell? w _ h2
  simp only at l0 l1 l2
  go_enter Tryz.func38, Tryz.ntmps38
  go_wp2
  all_goals
    go_ret
    exact ⟨ret_bool (by simp_all [rngP]), World.grownBy_alloc _ _ _⟩
noncomputable def askL (r : Rch) (s : ByteArray) (f t : Int) (l : List Smp) : List Rc := (viewL r (r.cover f) l).filter fun x => !rngP s f t x
abbrev ansV (tier : Int) (A : Option Addr) (n c : Nat) : Value := .agg #[.int .i64 tier, .slice A n c]
set_option maxRecDepth 100000 in
set_option maxHeartbeats 8000000 in
theorem ask_yes (A : Option Addr) (n c : Nat) (B : Option Addr) (m d : Nat) (r : Rch) (s : ByteArray) (f t : Int) (C : Option Addr) (k e : Nat) (l : List Smp) (w : World) (h : RchAt w A n B m r) (hn : n ≤ 100000) (hl : Smps w C k l) (hk : k ≤ 100000) (hs : s.size ≤ maxLen)
    (hv : validB s.toList = true) (hf : 0 ≤ f) (ht : f ≤ t) :
    Calls Tryz.prog 16 #[rchV r.now r.nm A n c B m d, .string s, .int .i64 f, .int .i64 t, .slice C k e] w fun x w' => ∃ D q, x = .returned (.tuple #[ansV (r.cover f) D (askL r s f t l).length q, .int .i64 0]) ∧ w'.ownsRow w.heap.size 61 7 (.slice D (askL r s f t l).length q) (askL r s f t l).length ((askL r s f t l).flatMap Rc.cells) ∧ Below w.heap.size w w' := by
  obtain ⟨W0, hW0⟩ : ∃ W0, W0 = ((((w.alloc (.cells #[.int .i64 r.now, .string r.nm, .slice A n c, .slice B m d] 46)).alloc (.cells #[.string s] 9)).alloc (.cells #[.int .i64 f] 3)).alloc (.cells #[.int .i64 t] 3)).alloc (.cells #[.int .i64 0, .slice none 0 0] 63) := ⟨_, rfl⟩
  have hz : W0.heap.size = w.heap.size + 5 := by rw [hW0]; simp
  have hb0 : Below w.heap.size w W0 := by
    rw [hW0]
    exact (((((Below.refl w.heap.size w).alloc (Nat.le_refl _) _).alloc (by simp) _).alloc (by simp; omega) _).alloc (by simp; omega) _).alloc (by simp; omega) _
  have B0 : Bx W0 w.heap.size 46 #[.int .i64 r.now, .string r.nm, .slice A n c, .slice B m d] := by
    rw [hW0]; exact ((((Bx.new w _ _).alloc _).alloc _).alloc _).alloc _
  have B1 : Bx W0 (w.heap.size + 1) 9 #[.string s] := by
    rw [hW0]
    have := Bx.new (w.alloc (.cells #[.int .i64 r.now, .string r.nm, .slice A n c, .slice B m d] 46)) 9 #[.string s]
    simp only [World.size_alloc] at this
    exact ((this.alloc _).alloc _).alloc _
  have B2 : Bx W0 (w.heap.size + 1 + 1) 3 #[.int .i64 f] := by
    rw [hW0]
    have := Bx.new ((w.alloc (.cells #[.int .i64 r.now, .string r.nm, .slice A n c, .slice B m d] 46)).alloc (.cells #[.string s] 9)) 3 #[.int .i64 f]
    simp only [World.size_alloc] at this
    exact (this.alloc _).alloc _
  have B3 : Bx W0 (w.heap.size + 1 + 1 + 1) 3 #[.int .i64 t] := by
    rw [hW0]
    have := Bx.new (((w.alloc (.cells #[.int .i64 r.now, .string r.nm, .slice A n c, .slice B m d] 46)).alloc (.cells #[.string s] 9)).alloc (.cells #[.int .i64 f] 3)) 3 #[.int .i64 t]
    simp only [World.size_alloc] at this
    exact this.alloc _
  have B4 : Bx W0 (w.heap.size + 1 + 1 + 1 + 1) 63 #[.int .i64 0, .slice none 0 0] := by
    rw [hW0]
    have := Bx.new ((((w.alloc (.cells #[.int .i64 r.now, .string r.nm, .slice A n c, .slice B m d] 46)).alloc (.cells #[.string s] 9)).alloc (.cells #[.int .i64 f] 3)).alloc (.cells #[.int .i64 t] 3)) 63 #[.int .i64 0, .slice none 0 0]
    simp only [World.size_alloc] at this
    exact this
  have HT := Lib.hid (h.below hb0)
  have HS := Lib.hid (hl.below hb0)
  have HV := Lib.hid (fun W => valid_one s W hs 1)
  rw [hv] at HV
  have HZ := Lib.hid hz
  have HTab := Lib.hid (view_ok r (r.cover f) l hl.ok)
  have hvl := view_len r (r.cover f) l
  rw [hl.len] at hvl
  have HAL := Lib.hid (show askL r s f t l = (viewL r (r.cover f) l).filter fun x => !rngP s f t x from rfl)
  have hft : decide (t < f) = false := decide_eq_false (by omega)
  have hf0 : decide (f < 0) = false := decide_eq_false (by omega)
  clear h hl hz
  go_enter Tryz.func16, Tryz.ntmps16
  go_upto_region 1 with fail
  rw [← hW0]
  have HW0 := Lib.hid hW0
  clear hW0
  have p1 := B1.at_ 0 rfl
  have hba := (Below.refl W0.heap.size W0).alloc (Nat.le_refl _) (.cells #[.string s] 9)
  have p2 := (B2.below hba).at_ 0 rfl
  have p3 := (B3.below hba).at_ 0 rfl
  have q0 := (B0.below hba).at_ 0 rfl
  have q1 := (B0.below hba).at_ 1 rfl
  have q2 := (B0.below hba).at_ 2 rfl
  have q3 := (B0.below hba).at_ 3 rfl
  go_wp2_with (go_at_call 35; refine (HV.out _).mono ?_; rintro e w1 ⟨rfl, rfl⟩)
  have bb0 := B0.below hba
  have bb1 := B1.below hba
  have bb2 := B2.below hba
  have bb3 := B3.below hba
  have bb4 := B4.below hba
  have hbw := hb0.trans (hba.mono hb0.size)
  have HRT := Lib.hid (HT.out.below hba)
  have HSS := Lib.hid (HS.out.below hba)
  have hwz : (W0.alloc (.cells #[.string s] 9)).heap.size = w.heap.size + 6 := by simp; rw [HZ.out]
  have HWZ := Lib.hid hwz
  generalize W0.alloc (.cells #[.string s] 9) = w1 at *
  clear p1 B0 B1 B2 B3 B4 hba hb0 HV hwz
  refine (cover_any A n c B m d r f _ HRT.out (by omega)).mono ?_
  rintro e w2 ⟨rfl, hb2⟩
  have cc0 := bb0.below hb2
  have cc1 := bb1.below hb2
  have cc2 := bb2.below hb2
  have cc3 := bb3.below hb2
  have cc4 := bb4.below hb2
  have hbw2 := hbw.trans (hb2.mono hbw.size)
  have HRT2 := Lib.hid (HRT.out.below hb2)
  have HSS2 := Lib.hid (HSS.out.below hb2)
  have hs2 : w.heap.size + 6 ≤ w2.heap.size := by have := hb2.size; rw [HWZ.out] at this; exact this
  clear p2 p3 q0 q1 q2 q3 bb0 bb1 bb2 bb3 bb4 hb2 HRT HSS hbw
  have q0 := cc0.at_ 0 rfl
  have q1 := cc0.at_ 1 rfl
  have q2 := cc0.at_ 2 rfl
  have q3 := cc0.at_ 3 rfl
  generalize hcv : r.cover f = cv at *
  have HCV := Lib.hid hcv
  clear hcv
  go_wp2_with fail
  refine (tier_any A n c B m d r cv C k e l _ HRT2.out (by omega) HSS2.out hk).mono ?_
  rintro e w3 ⟨v, rfl, hrow, hb3⟩
  have dd1 := cc1.below hb3
  have dd2 := cc2.below hb3
  have dd3 := cc3.below hb3
  have dd4 := cc4.below hb3
  have hbw3 := hbw2.trans (hb3.mono hbw2.size)
  have hs3 : w.heap.size + 6 ≤ w3.heap.size := Nat.le_trans hs2 hb3.size
  have hcb : CbGives (rngP s f t) 38 #[.pointer (some ⟨w.heap.size + 1, 0, none⟩), .pointer (some ⟨w.heap.size + 1 + 1, 0, none⟩), .pointer (some ⟨w.heap.size + 1 + 1 + 1, 0, none⟩)] (viewL r cv l) v.ownBlock w3 := fun W x hg _ => by
    have e0 : ∀ o, o < w2.heap.size → some o ≠ v.ownBlock := fun o ho e => by have := (hrow.lt _ e.symm).1; omega
    exact ask1_any s f t (w.heap.size + 1) x W (hg.cell (dd1.at_ 0 rfl) (e0 _ (by simp only; omega))) (hg.cell (dd2.at_ 0 rfl) (e0 _ (by simp only; omega))) (hg.cell (dd3.at_ 0 rfl) (e0 _ (by simp only; omega)))
  have HD := Lib.hid (deleteF_any (rngP s f t) 38 _ _ v (viewL r cv l) w3 hrow HTab.out (by omega) (enters_of Tryz.func38 (by kernel_rfl) rfl) hcb)
  have HVL := Lib.hid hrow.lt
  clear hcb hrow q0 q1 q2 q3 cc0 cc1 cc2 cc3 cc4 hb3 HRT2 HSS2 hbw2 dd1 dd2 dd3
  go_wp2_with fail
  refine HD.out.mono ?_
  rintro e w4 ⟨v', rfl, hrow4, hg4⟩
  rw [← HAL.out] at hrow4
  have hb4 := hbw3.grown hg4 hbw3.size (fun q hq => by have := (HVL.out q hq).1; omega)
  have ee4 := dd4.grown hg4 (fun e => by have := (HVL.out _ e.symm).1; omega)
  obtain ⟨D, q, rfl, _⟩ := own_sl hrow4
  have HVL4 := Lib.hid hrow4.lt
  have HR4 := Lib.hid hrow4
  have f0 := ee4.free 0
  have f1 := ee4.free 1
  have x0 := ee4.at_ 0 rfl
  have x1 := ee4.at_ 1 rfl
  clear hrow4 HD hg4 dd4 hbw3
  generalize hRR : askL r s f t l = R at *
  have HRR := Lib.hid hRR
  clear hRR
  go_wp2
  have X := (ee4.set 0 (.int .i64 cv)).set 1 (.slice D R.length q)
  have y0 := X.at_ 0 rfl
  have y1 := X.at_ 1 rfl
  have hfin : Below w.heap.size w ((w4.setCell ⟨w.heap.size + 1 + 1 + 1 + 1, 0, none⟩ (.int .i64 cv)).setCell ⟨w.heap.size + 1 + 1 + 1 + 1, 1, none⟩ (.slice D R.length q)) := (hb4.setCell (by simp; omega) _).setCell (by simp; omega) _
  have hrf : ((w4.setCell ⟨w.heap.size + 1 + 1 + 1 + 1, 0, none⟩ (.int .i64 cv)).setCell ⟨w.heap.size + 1 + 1 + 1 + 1, 1, none⟩ (.slice D R.length q)).ownsRow w.heap.size 61 7 (.slice D R.length q) R.length (R.flatMap Rc.cells) :=
    own_low (own_far (own_far HR4.out (fun g hg e => by have := (HVL4.out g hg).1; simp only at e; omega) _) (fun g hg e => by have := (HVL4.out g hg).1; simp only at e; omega) _) (by omega)
  generalize ((w4.setCell ⟨w.heap.size + 1 + 1 + 1 + 1, 0, none⟩ (.int .i64 cv)).setCell ⟨w.heap.size + 1 + 1 + 1 + 1, 1, none⟩ (.slice D R.length q)) = W at y0 y1 hfin hrf ⊢
  exact bodyPost_ret (v := .tuple #[ansV cv D R.length q, .int .i64 0]) (by simp [results, Tryz.results16, go_sem, y0, y1]) rfl ⟨D, q, by rw [HCV.out, HRR.out], by rw [HRR.out]; exact hrf, hfin⟩
end Go.Proofs.YtcglbbabfkbcbadGreat
/- The document's own Range and Asks. -/
namespace Go.Proofs.YtcglbbabfkbcbadGreat
open Go.RowKit Go.Deep

/-- What Range has found in the first j. -/
def rangeTo (s : ByteArray) (a b : Int) (l : List Rc) (j : Nat) : List Rc := (l.take j).filter fun x => !rngP s a b x
theorem range_in {s : ByteArray} {a b : Int} {l : List Rc} {j : Nat} (hj : j < l.length) (h : rngP s a b l[j] = false) : rangeTo s a b l (j + 1) = rangeTo s a b l j ++ [l[j]] := by
  unfold rangeTo
  rw [List.take_succ_eq_append_getElem hj, List.filter_append]
  simp [h]
theorem range_out {s : ByteArray} {a b : Int} {l : List Rc} {j : Nat} (hj : j < l.length) (h : rngP s a b l[j] = true) : rangeTo s a b l (j + 1) = rangeTo s a b l j := by
  unfold rangeTo
  rw [List.take_succ_eq_append_getElem hj, List.filter_append]
  simp [h]
theorem range_len (s : ByteArray) (a b : Int) (l : List Rc) (j : Nat) : (rangeTo s a b l j).length ≤ j := by
  have h1 := List.length_filter_le (fun x => !rngP s a b x) (l.take j)
  have h2 := List.length_take_le j l
  unfold rangeTo; omega
set_option maxRecDepth 100000 in
set_option maxHeartbeats 4000000 in
theorem refRange_any (g B : Nat) (ev : Int) (l : List Rc) (v : Value) (s : ByteArray) (a b : Int) (w : World) (h : RTab w g B ev l v) (hl : l.length ≤ 100000) :
    Calls Tryz.prog 20 #[.pointer (some ⟨g, 0, none⟩), .string s, .int .i64 a, .int .i64 b] w fun e w' => ∃ v', e = .returned v' ∧ w'.ownsRow w.heap.size 61 7 v' (rangeTo s a b l l.length).length ((rangeTo s a b l l.length).flatMap Rc.cells) ∧ Below w.heap.size w w' := by
  obtain ⟨A, c, rfl, hR⟩ := own_rcs h.row h.ok (by unfold maxLen; omega)
  obtain ⟨n, hn⟩ : ∃ n, n = l.length := ⟨_, rfl⟩
  have HBX := Lib.hid h.box
  clear h
  rw [← hn] at hR hl HBX ⊢
  have HN := Lib.hid hn
  have HR := Lib.hid hR
  clear hn hR
  obtain ⟨i0, hi, hz0, hz1, hz2⟩ := info_parts info_rec
  have HI := Lib.hid hi
  have HI0 := Lib.hid hz0
  have HI1 := Lib.hid hz1
  have HI2 := Lib.hid hz2
  clear hi hz0 hz1 hz2
  go_enter Tryz.func20, Tryz.ntmps20
  go_wp2_with fail
  go_loopw [9, 10] (fun vv i wr => ∃ j : Nat, j ≤ n ∧ i = .int .i64 j ∧ wr.ownsRow w.heap.size 61 7 vv (rangeTo s a b l j).length ((rangeTo s a b l j).flatMap Rc.cells) ∧ Below w.heap.size w wr) (fun _ i _ => n - (intOf i).toNat)
  case atStart => exact ⟨0, Nat.zero_le _, rfl, World.ownsRow_nil _ _ _ _, Below.refl _ _⟩
  case round =>
    obtain ⟨j, hj, rfl, hown, hbr⟩ := hrel
    have q1 := (HBX.out.below hbr).at_ 1 (v := .slice A n c) rfl
    by_cases hlt : j < n
    · have K : j < l.length := by rw [← HN.out]; exact hlt
      obtain ⟨bb, off, rfl, hbl, Y⟩ := (HR.out.below hbr).get K
      have HIN := Lib.hid (range_in (s := s) (a := a) (b := b) K)
      have HOUT := Lib.hid (range_out (s := s) (a := a) (b := b) K)
      have hfl := range_len s a b l j
      generalize l[j]'K = y at *
      obtain ⟨y0, y1, y2, y3, y4, y5, y6⟩ := Y
      have g0 : (0 : Int) ≤ (j : Int) := by omega
      have g1 : (j : Int) < (n : Int) := by omega
      by_cases hnm : y.nm = s
      · have e1 : (y.nm.toList == s.toList) = true := by rw [hnm]; exact beq_self_eq_true _
        by_cases h1 : y.st < a
        · have HNX := Lib.hid (HOUT.out (by unfold rngP; rw [decide_eq_true h1]; simp))
          clear hnm
          go_wp2_with fail
          go_roundw
          case rel => exact ⟨j + 1, by omega, by go_num, by rw [HNX.out]; exact hown, hbr⟩
          case measure => simp [intOf]; omega
        · by_cases h2 : b ≤ y.st
          · have HNX := Lib.hid (HOUT.out (by unfold rngP; rw [decide_eq_true h2]; simp))
            clear hnm
            go_wp2_with fail
            go_roundw
            case rel => exact ⟨j + 1, by omega, by go_num, by rw [HNX.out]; exact hown, hbr⟩
            case measure => simp [intOf]; omega
          · have HNX := Lib.hid (HIN.out (by unfold rngP; rw [e1, decide_eq_false h1, decide_eq_false h2]; rfl))
            have hba := (Below.refl wr.heap.size wr).alloc (Nat.le_refl _) (.cells #[.string y.nm, .int .i64 y.st, .int .i64 y.ag.c, .int .i64 y.ag.hi, .int .u64 y.ag.lo, .int .i64 y.ag.mn, .int .i64 y.ag.mx] 61)
            have HRW := Lib.hid (bk_below hown hba)
            have HSL := Lib.hid (Sl.new wr 61 wr.heap.size y.cells #[.string y.nm, .int .i64 y.st, .int .i64 y.ag.c, .int .i64 y.ag.hi, .int .u64 y.ag.lo, .int .i64 y.ag.mn, .int .i64 y.ag.mx] rfl rfl)
            have HLT := Lib.hid hown.lt
            clear hnm hown
            go_wp2_with (at_builtin; refine wpList_append_sl _ rfl _ _ 49 rfl w.heap.size 61 i0 _ 7 64 Tryz.underlying49 HI.out HI0.out HI1.out HI2.out rfl (by decide) u9 (rangeTo s a b l j).length _ rfl HRW.out (some ⟨wr.heap.size, 0, none⟩) 1 1 y.cells rfl rfl HSL.out one_cells' ?c4 ?c5 ?c6 ?_; (unfold maxLen; omega); (omega); (have := hbr.size; simp; omega); intro v' w4 hown4 hg4 _)
            have hbr4 := (hbr.trans (hba.mono hbr.size)).grown hg4 (by have := hbr.size; simp; omega) (fun q hq => (HLT.out q hq).1)
            go_roundw
            case rel => exact ⟨j + 1, by omega, by go_num, by rw [HNX.out, List.length_append, List.flatMap_append]; simpa using hown4, hbr4⟩
            case measure => simp [intOf]; omega
      · have e1 : (y.nm.toList == s.toList) = false := beq_eq_false_iff_ne.2 (fun e => hnm (list_eq' e))
        have HNX := Lib.hid (HOUT.out (by unfold rngP; rw [e1]; simp))
        clear hnm
        go_wp2_with fail
        go_roundw
        case rel => exact ⟨j + 1, by omega, by go_num, by rw [HNX.out]; exact hown, hbr⟩
        case measure => simp [intOf]; omega
    · have hje : j = n := by omega
      have hd : decide ((j : Int) < (n : Int)) = false := decide_eq_false (by omega)
      subst hje
      go_wp2_with fail
      go_ret
      exact ⟨_, rfl, hown, hbr⟩
/-- May a query be? -/
def asksE (s : ByteArray) (a b : Int) : Int := if validB s.toList = true ∧ 0 ≤ a ∧ a ≤ b then 0 else 1
set_option maxHeartbeats 1000000 in
theorem refAsks_any (s : ByteArray) (a b : Int) (w : World) (hs : s.size ≤ maxLen) :
    Calls Tryz.prog 17 #[.string s, .int .i64 a, .int .i64 b] w fun e w' => e = .returned (.int .i64 (asksE s a b)) ∧ w = w' := by
  have HN := Lib.hid (fun W => refName_any s W hs)
  by_cases h1 : validB s.toList = true
  · by_cases h2 : a < 0
    · have HF := Lib.hid (show asksE s a b = 1 from if_neg (by omega))
      have hd : decide (a < 0) = true := decide_eq_true h2
      rw [h1] at HN
      clear h1
      go_enter Tryz.func17, Tryz.ntmps17
      go_wp2_with (go_at_call 31; refine (HN.out _).mono ?_; rintro e wq ⟨rfl, rfl⟩)
      go_ret
      exact ⟨ret_int HF.out.symm, rfl⟩
    · by_cases h3 : b < a
      · have HF := Lib.hid (show asksE s a b = 1 from if_neg (by omega))
        have hd : decide (a < 0) = false := decide_eq_false h2
        have hd2 : decide (b < a) = true := decide_eq_true h3
        rw [h1] at HN
        clear h1
        go_enter Tryz.func17, Tryz.ntmps17
        go_wp2_with (go_at_call 31; refine (HN.out _).mono ?_; rintro e wq ⟨rfl, rfl⟩)
        go_ret
        exact ⟨ret_int HF.out.symm, rfl⟩
      · have HF := Lib.hid (show asksE s a b = 0 from if_pos ⟨h1, by omega, by omega⟩)
        have hd : decide (a < 0) = false := decide_eq_false h2
        have hd2 : decide (b < a) = false := decide_eq_false h3
        rw [h1] at HN
        clear h1
        go_enter Tryz.func17, Tryz.ntmps17
        go_wp2_with (go_at_call 31; refine (HN.out _).mono ?_; rintro e wq ⟨rfl, rfl⟩)
        go_ret
        exact ⟨ret_int HF.out.symm, rfl⟩
  · have HF := Lib.hid (show asksE s a b = 1 from if_neg (fun h => h1 h.1))
    have hf : validB s.toList = false := by simpa using h1
    rw [hf] at HN
    clear h1 hf
    go_enter Tryz.func17, Tryz.ntmps17
    go_wp2_with (go_at_call 31; refine (HN.out _).mono ?_; rintro e wq ⟨rfl, rfl⟩)
    go_ret
    exact ⟨ret_int HF.out.symm, rfl⟩
end Go.Proofs.YtcglbbabfkbcbadGreat
