/-
  Roll.
-/
import Derived.Test.YtdlmipoeeiaapaaTableNeed
import Derived.Test.YtdlmipoeeiaapaaTableAdd
import Derived.Test.YtdlmipoeeiaapaaTableFind
import Derived.Test.YtdlmipoeeiaapaaTableOk
import Derived.Test.YtdlmipoeeiaapaaTableCopy
import Derived.Test.YtdlmipoeeiaapaaGrid
import Derived.Deep.DeepCutAuto
namespace Go.Proofs.Ytdlmipoeeiaapaa
open Go.RowKit Go.Maps

/-- A record at its place in greater buckets. -/
def Rc.at_ (ev : Int) (r : Rc) : Rc := ⟨r.nm, flr r.st ev, r.ag⟩
/-- What Roll makes of records. -/
def rolledL (ev from_ : Int) (l : List Rc) : List Rc := (l.map (Rc.at_ ev)).filter fun r => decide (from_ ≤ r.st)
noncomputable def rollL (ev from_ : Int) (l : List Rc) : List Rc := addL ev [] (rolledL ev from_ l)
theorem rolled_snoc (ev from_ : Int) (l : List Rc) (r : Rc) : rolledL ev from_ (l ++ [r]) = rolledL ev from_ l ++ if from_ ≤ flr r.st ev then [r.at_ ev] else [] := by
  unfold rolledL
  rw [List.map_append, List.filter_append]
  congr 1
  rw [List.map_singleton, List.filter_cons]
  simp only [decide_eq_true_eq]
  rfl
theorem rollL_yes {ev from_ : Int} {l : List Rc} {r : Rc} (h : from_ ≤ flr r.st ev) : rollL ev from_ (l ++ [r]) = addL ev (rollL ev from_ l) [r.at_ ev] := by
  unfold rollL
  rw [rolled_snoc, if_pos h, addL, List.foldl_append]; rfl
theorem rollL_no {ev from_ : Int} {l : List Rc} {r : Rc} (h : ¬ from_ ≤ flr r.st ev) : rollL ev from_ (l ++ [r]) = rollL ev from_ l := by
  unfold rollL
  rw [rolled_snoc, if_neg h, List.append_nil]
theorem rollL_len (ev from_ : Int) (l : List Rc) : (rollL ev from_ l).length ≤ l.length := by
  have h1 := addL_len (ev := ev) (l := []) (rs := rolledL ev from_ l)
  have h2 := List.length_filter_le (fun r : Rc => decide (from_ ≤ r.st)) (l.map (Rc.at_ ev))
  rw [List.length_map] at h2
  unfold rollL rolledL at *
  simp only [List.length_nil] at h1
  omega
theorem rec_box (w : World) (r : Rc) (h : r.Ok) (g : Nat) (hg : g = w.heap.size) : Rcs (w.alloc (.cells #[.string r.nm, .int .i64 r.st, .int .i64 r.ag.c, .int .i64 r.ag.hi, .int .u64 r.ag.lo, .int .i64 r.ag.mn, .int .i64 r.ag.mx] 34)) (some ⟨g, 0, none⟩) 1 [r] :=
  ⟨Sl.new w _ _ _ _ hg (by simp [Rc.cells, Ag.cells]), rfl, by decide, fun x hx => by rw [List.mem_singleton.1 hx]; exact h.nm, fun x hx => by rw [List.mem_singleton.1 hx]; exact h.st, fun x hx => by rw [List.mem_singleton.1 hx]; exact h.ag.ok⟩
set_option maxRecDepth 100000 in
set_option maxHeartbeats 4000000 in
theorem rollT_any (ev2 fr : Int) {w : World} {g mm : Nat} {ev : Int} {l : List Rc} (h : TableAt w g mm ev l) (hfew : l.length < 900000) (hst : ∀ r ∈ l, 0 ≤ r.st) (hev : 1 ≤ ev ∧ ev ≤ 9223372036854775807) (hev2 : 1 ≤ ev2 ∧ ev2 ≤ 9223372036854775807) (hdv : ev2 % ev = 0) :
    Calls Try.prog 15 #[.pointer (some ⟨g, 0, none⟩), .int .i64 ev2, .int .i64 fr] w fun e w' => ∃ g2 mm2, e = .returned (.pointer (some ⟨g2, 0, none⟩)) ∧ TableAt w' g2 mm2 ev2 (rollL ev2 fr l) ∧ Below w.heap.size w w' ∧ w.heap.size ≤ g2 ∧ w.heap.size ≤ mm2 := by
  have HDV := Lib.hid (decide_eq_true hdv)
  have HOK := Lib.hid h.ok
  have HST := Lib.hid hst
  have hmax := Lib.hid (show max ev2 1 = ev2 from by omega)
  clear hdv hst
  go_enter Try.func15, Try.ntmps15
  go_wp2_with fail
  refine (newT_any ev2 w).mono ?_
  rintro e w1 ⟨g2, mm2, rfl, T1, hb1, hg2, hm2⟩
  rw [hmax.out] at T1
  have h1 := h.below hb1
  have T1D := T1.drew
  have hE := everyT_any h1.drew
  have hD := divides_any ev ev2 w1.drew (by omega) (by omega)
  rw [HDV.out] at hD
  obtain ⟨c0, c1⟩ := T1.cells
  obtain ⟨d0, d1⟩ := T1D.cells
  go_upto_region 4 with fail
  go_cut [21] (fun s21 wx => s21 = .bool false ∧ Below w1.heap.size w1 wx)
  case first =>
    go_region_with (first
      | (go_at_call 29; (with_reducible refine hE.mono ?_); rintro e w7 ⟨rfl, rfl⟩)
      | (go_at_call 37; (with_reducible refine hD.mono ?_); rintro e w7 ⟨rfl, rfl⟩))
    all_goals
      go_wp2_with fail
      go_meet
      exact ⟨rfl, (Below.refl _ _).drew⟩
  case rest =>
    obtain ⟨rfl, hbx⟩ := hcut
    have T2 := T1.below hbx
    have h2 := h1.below hbx
    have hb2 := hb1.trans (hbx.mono hb1.size)
    clear T1 T1D hE hD c0 c1 d0 d1 h1 hb1 hbx
    go_wp2_with fail
    refine (allT_any h2 (by omega)).mono ?_
    rintro e w3 ⟨v, rfl, hrow, hb3⟩
    obtain ⟨A3, c3, rfl, R3⟩ := own_rcs hrow HOK.out (by unfold maxLen; omega)
    have T3 := T2.below hb3
    have hbw3 := hb2.trans (hb3.mono hb2.size)
    clear T2 h2 hb2 hb3 hrow
    go_wp2_with fail
    go_loopw [26] (fun i wr => ∃ j : Nat, j ≤ l.length ∧ i = .int .i64 j ∧ TableAt wr g2 mm2 ev2 (rollL ev2 fr (l.take j)) ∧ Rcs wr A3 l.length l ∧ Below w.heap.size w wr) (fun i _ => l.length - (intOf i).toNat)
    case atStart => exact ⟨0, Nat.zero_le _, rfl, T3, R3, hbw3⟩
    case round =>
      clear T3 R3 hbw3
      obtain ⟨j, hj, rfl, T, R, hbr⟩ := hrel
      by_cases hlt : j < l.length
      · obtain ⟨b, off, rfl, hb, X⟩ := R.get hlt
        obtain ⟨r0, r1, r2, r3, r4, r5, r6⟩ := X
        have HO := Lib.hid (HOK.out _ (List.getElem_mem hlt))
        have hx0 := HST.out _ (List.getElem_mem hlt)
        have HN1 := Lib.hid (show fr ≤ flr l[j].st ev2 → rollL ev2 fr (l.take (j + 1)) = addL ev2 (rollL ev2 fr (l.take j)) [l[j].at_ ev2] from fun h => by rw [List.take_succ_eq_append_getElem hlt, rollL_yes h])
        have HN2 := Lib.hid (show ¬ fr ≤ flr l[j].st ev2 → rollL ev2 fr (l.take (j + 1)) = rollL ev2 fr (l.take j) from fun h => by rw [List.take_succ_eq_append_getElem hlt, rollL_no h])
        have hkl := rollL_len ev2 fr (l.take j)
        rw [List.length_take] at hkl
        generalize rollL ev2 fr (l.take j) = K at *
        generalize l[j]'hlt = x at *
        have hxb := bd_i64 HO.out.st
        have hfb := flr_bd hx0 hev2.1
        have hF := fun W => floor_any x.st ev2 W ⟨hx0, hxb.2⟩ hev2
        obtain ⟨y, hy⟩ : ∃ y, flr x.st ev2 = y := ⟨_, rfl⟩
        rw [hy] at hfb hF HN1 HN2
        have HY := Lib.hid hy
        clear hy
        obtain ⟨c0, c1⟩ := T.cells
        have hTl := T.lt
        go_upto_region 9 with fail
        go_cut [9] (fun s9 wx => s9 = .pointer (some ⟨wr.heap.size, 0, none⟩) ∧ wx = (wr.alloc (.cells #[.string x.nm, .int .i64 y, .int .i64 x.ag.c, .int .i64 x.ag.hi, .int .u64 x.ag.lo, .int .i64 x.ag.mn, .int .i64 x.ag.mx] 34)).drew)
        case first =>
          go_region_with (go_at_call 38; (with_reducible refine (hF _).mono ?_); rintro e w7 ⟨rfl, rfl⟩)
          all_goals
            go_wp2_with fail
            go_meet
            exact ⟨rfl, rfl⟩
        case rest =>
          obtain ⟨rfl, rfl⟩ := hcut
          have hbx : Below wr.heap.size wr ((wr.alloc (.cells #[.string x.nm, .int .i64 y, .int .i64 x.ag.c, .int .i64 x.ag.hi, .int .u64 x.ag.lo, .int .i64 x.ag.mn, .int .i64 x.ag.mx] 34)).drew) := ((Below.refl _ _).alloc (Nat.le_refl _) _).drew
          have TX := T.below hbx
          have RX := R.below hbx
          have hbX := hbr.trans (hbx.mono hbr.size)
          have RB : RcCells ((wr.alloc (.cells #[.string x.nm, .int .i64 y, .int .i64 x.ag.c, .int .i64 x.ag.hi, .int .u64 x.ag.lo, .int .i64 x.ag.mn, .int .i64 x.ag.mx] 34)).drew) wr.heap.size 0 ⟨x.nm, y, x.ag⟩ := (RcCells.new wr ⟨x.nm, y, x.ag⟩).keep (grown_of_below ((Below.refl _ _).drew) none) (by simp)
          clear T R hbr r0 r1 r2 r3 r4 r5 r6 c0 c1 hF hbx
          generalize (wr.alloc (.cells #[.string x.nm, .int .i64 y, .int .i64 x.ag.c, .int .i64 x.ag.hi, .int .u64 x.ag.lo, .int .i64 x.ag.mn, .int .i64 x.ag.mx] 34)).drew = wx at *
          obtain ⟨s0, s1, s2, s3, s4, s5, s6⟩ := RB
          rw [Nat.zero_add] at s1 s2 s3 s4 s5 s6
          by_cases hfr : fr ≤ y
          · have hyo : Rc.Ok ⟨x.nm, y, x.ag⟩ := ⟨HO.out.nm, wf_i64 (show -9223372036854775808 ≤ y ∧ y ≤ 9223372036854775807 by omega), HO.out.ag⟩
            have hbw : Below wx.heap.size wx (wx.alloc (.cells #[.string x.nm, .int .i64 y, .int .i64 x.ag.c, .int .i64 x.ag.hi, .int .u64 x.ag.lo, .int .i64 x.ag.mn, .int .i64 x.ag.mx] 34)) := (Below.refl _ _).alloc (Nat.le_refl _) _
            have TY := TX.below hbw
            have RY := RX.below hbw
            have hbY := hbX.trans (hbw.mono hbX.size)
            have hA := addT_any (c := 1) _ TY (rec_box wx ⟨x.nm, y, x.ag⟩ hyo wx.heap.size rfl) (by omega) (by omega)
            clear TX RX hbX hbw hyo
            go_wp2_with fail
            refine hA.mono ?_
            rintro e w7 ⟨rfl, T7, hg7⟩
            have R7 := RY.keepB (fun o => TY.map.nocell o) hg7
            have hb7 := hbY.grown hg7 hbY.size (fun k hk => by cases hk; exact hm2)
            clear TY RY hbY hg7
            go_wp2
            go_roundw
            case rel => exact ⟨j + 1, by omega, by go_num, by rw [HN1.out hfr]; unfold Rc.at_; rw [HY.out]; exact T7, R7, hb7⟩
            case measure => simp [intOf]; omega
          · have hd : decide (fr ≤ y) = false := decide_eq_false hfr
            go_wp2
            go_roundw
            case rel => exact ⟨j + 1, by omega, by go_num, by rw [HN2.out hfr]; exact TX, RX, hbX⟩
            case measure => simp [intOf]; omega
      · have e1 := Lib.hid (show l.take j = l from List.take_of_length_le (by omega))
        rw [e1.out] at T
        go_wp2
        go_ret
        exact ⟨_, _, rfl, T, hbr, hg2, hm2⟩
end Go.Proofs.Ytdlmipoeeiaapaa
