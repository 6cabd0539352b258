/-
  TableFinds: its walk.
-/
import Derived.Test.YtdlmipoeeiaapaaRecIn
import Derived.Test.YtdlmipoeeiaapaaAlive10
import Derived.Test.YtdlmipoeeiaapaaTableRange
import Derived.Test.YtdlmipoeeiaapaaTableFind
import Derived.Test.YtdlmipoeeiaapaaTableCopy
import Derived.Test.YtdlmipoeeiaapaaTot
import Derived.Deep.DeepCutAuto
namespace Go.Proofs.Ytdlmipoeeiaapaa
open Go.RowKit Go.Maps

theorem agAt_mem {L : List Rc} (h : L.Pairwise Rc.lt) {r : Rc} (hr : r ∈ L) : agAt L r.nm r.st = r.ag ∧ (findR L r.nm r.st).isSome = true := by
  unfold agAt
  rw [find_mem h hr]; exact ⟨rfl, rfl⟩
/-- What a look-up leaves in a variable of the round. -/
def FoundBox (wr : World) (z : Ag) (s14 s15 : Value) (wx : World) : Prop := ∃ bx, s14 = .pointer (some ⟨bx, 0, none⟩) ∧ s15 = .bool true ∧ AgBox wx bx z ∧ Below wr.heap.size wr wx
theorem FoundBox.mk1 {wr w7 : World} {z : Ag} (hb : Below wr.drew.heap.size wr.drew w7) : FoundBox wr z (.pointer (some ⟨w7.heap.size, 0, none⟩)) (.bool true) (w7.alloc (.cells #[.int .i64 z.c, .int .i64 z.hi, .int .u64 z.lo, .int .i64 z.mn, .int .i64 z.mx] 32)) :=
  ⟨_, rfl, rfl, AgBox.new w7 z, ((Below.refl wr.heap.size wr).drew.trans hb).alloc hb.size _⟩
theorem FoundBox.mk2 {wr w7 : World} {z : Ag} (hb : Below ((wr.alloc (.cells #[.int .i64 0, .int .i64 0, .int .u64 0, .int .i64 0, .int .i64 0] 32)).drew).heap.size ((wr.alloc (.cells #[.int .i64 0, .int .i64 0, .int .u64 0, .int .i64 0, .int .i64 0] 32)).drew) w7) (B : AgBox w7 wr.heap.size Ag.zero) :
    FoundBox wr z (.pointer (some ⟨wr.heap.size, 0, none⟩)) (.bool true) (((((w7.setCell ⟨wr.heap.size, 0, none⟩ (.int .i64 z.c)).setCell ⟨wr.heap.size, 1, none⟩ (.int .i64 z.hi)).setCell ⟨wr.heap.size, 2, none⟩ (.int .u64 z.lo)).setCell ⟨wr.heap.size, 3, none⟩ (.int .i64 z.mn)).setCell ⟨wr.heap.size, 4, none⟩ (.int .i64 z.mx)) :=
  ⟨_, rfl, rfl, B.set z, (((((((Below.refl wr.heap.size wr).alloc (Nat.le_refl _) _).drew.trans (hb.mono (by simp))).setCell (Nat.le_refl _) _).setCell (Nat.le_refl _) _).setCell (Nat.le_refl _) _).setCell (Nat.le_refl _) _).setCell (Nat.le_refl _) _⟩
set_option maxRecDepth 100000 in
set_option maxHeartbeats 8000000 in
theorem walk_tableFinds {w : World} (A : Option Addr) (n cap : Nat) (rs : List Rc) (hrs : Rcs w A n rs) (nm : ByteArray) (hnm : nm.size ≤ maxLen) (a : Int) (_ : (Lit.int .i64 a).wf = true) (b : Int) (_ : (Lit.int .i64 b).wf = true) :
    Calls Try.prog 5 #[.slice A n cap, .string nm, .int .i64 a, .int .i64 b] w fun e w' => e = .returned (.bool true) ∧ Below w.heap.size w w' := by
  have hnm' := hnm
  unfold maxLen at hnm'
  by_cases h60 : 60 < nm.size
  · go_enter Try.func5, Try.ntmps5
    go_wp2_with fail
    refine (few_any 40 A n cap rs w hrs (by omega)).mono ?_
    rintro e w1 ⟨v, rfl, hv, rfl⟩
    cases v
    all_goals
      clear hv
      go_wp2_with fail
      refine (alive_any _).mono ?_
      rintro e w2 ⟨rfl, hb2⟩
      go_wp2_with fail
      go_ret
      exact ⟨rfl, hb2⟩
  have hd60 : decide (60 < (nm.size : Int)) = false := decide_eq_false (by omega)
  go_enter Try.func5, Try.ntmps5
  go_wp2_with fail
  refine (few_any 40 A n cap rs w hrs (by omega)).mono ?_
  rintro e w1 ⟨v, rfl, hv, rfl⟩
  cases v
  · clear hv
    go_wp2_with fail
    refine (alive_any _).mono ?_
    rintro e w2 ⟨rfl, hb2⟩
    go_wp2_with fail
    go_ret
    exact ⟨rfl, hb2⟩
  · have hn40 := hv rfl
    have HN40 : n ≤ 40 := by omega
    clear hv hn40
    go_wp2_with fail
    refine (newT_any 1 w).mono ?_
    rintro e w1 ⟨g, mm, rfl, T1, hb1, hg, hm⟩
    rw [show max (1 : Int) 1 = 1 from by decide] at T1
    go_wp2_with fail
    refine (addT_any (c := cap) _ T1 (hrs.below hb1) (by decide) (by simp; omega)).mono ?_
    rintro e w2 ⟨rfl, T2, hg2⟩
    have hL := fill_len rs
    have HQM := Lib.hid (fill_no_mark rs)
    have hlen := hrs.len
    have hbw2 := hb1.grown hg2 hb1.size (fun k hk => by cases hk; exact hm)
    generalize addL 1 [] rs = L at *
    generalize addN 1 rs = an at *
    have hfew : L.length ≤ 40 := by omega
    clear hL hlen T1 hb1 hg2
    go_wp2_with fail
    refine (allT_any T2 (by omega)).mono ?_
    rintro e w3 ⟨v, rfl, hrow, hb3⟩
    obtain ⟨A3, c3, rfl, R3⟩ := own_rcs hrow T2.ok (by unfold maxLen; omega)
    have T3 := T2.below hb3
    have hbw3 := hbw2.trans (hb3.mono hbw2.size)
    clear T2 hbw2 hb3 hrow
    go_wp2_with fail
    refine (rangeT_any nm a b T3 (by omega)).mono ?_
    rintro e w5 ⟨v, rfl, hrow, hb5⟩
    have hle := List.length_filter_le (fun r : Rc => !rngP nm a b r) L
    obtain ⟨M, hM⟩ : ∃ M, M = L.filter fun r : Rc => !rngP nm a b r := ⟨_, rfl⟩
    rw [← hM] at hrow hle
    obtain ⟨A5, c5, rfl, R5⟩ := own_rcs hrow (fun r hr => T3.ok r (by rw [hM] at hr; exact (List.mem_filter.1 hr).1)) (by unfold maxLen; omega)
    have HM := Lib.hid hM
    have T5 := T3.below hb5
    have R5' := R3.below hb5
    have hbw5 := hbw3.trans (hb5.mono hbw3.size)
    clear hM R3 T3 hbw3 hb5 hrow
    have HN := Lib.hid (show ∀ j (h : j < L.length), (!rngP nm a b L[j]) = true → M[((L.take j).filter fun r : Rc => !rngP nm a b r).length]? = some L[j] from fun j h hp => by rw [HM.out]; exact filter_at (fun r : Rc => !rngP nm a b r) L j h hp)
    have HS := Lib.hid (show ∀ j (h : j < L.length), ((L.take (j + 1)).filter fun r : Rc => !rngP nm a b r).length = ((L.take j).filter fun r : Rc => !rngP nm a b r).length + if (!rngP nm a b L[j]) = true then 1 else 0 from fun j h => filter_next (fun r : Rc => !rngP nm a b r) L j h)
    have HAG := Lib.hid (show ∀ j (h : j < L.length), agAt L L[j].nm L[j].st = L[j].ag ∧ (findR L L[j].nm L[j].st).isSome = true from fun j h => agAt_mem T5.ord (List.getElem_mem h))
    go_wp2_with fail
    obtain ⟨w6, hw6⟩ : ∃ w6, w6 = w5 := ⟨_, rfl⟩
    subst hw6
    go_loopw [12, 13] (fun k i wr => ∃ j : Nat, j ≤ L.length ∧ i = .int .i64 j ∧ k = .int .i64 (((L.take j).filter fun r : Rc => !rngP nm a b r).length : Nat) ∧ Below w6.heap.size w6 wr) (fun _ i _ => L.length - (intOf i).toNat)
    case atStart => exact ⟨0, Nat.zero_le _, rfl, rfl, Below.refl _ _⟩
    case round =>
      obtain ⟨j, hj, rfl, rfl, hbel⟩ := hrel
      by_cases hlt : j < L.length
      · have RR := R5'.below hbel
        have TT := T5.below hbel
        obtain ⟨bb, off, rfl, hbb, X⟩ := RR.get hlt
        obtain ⟨r0, r1, r2, r3, r4, r5, r6⟩ := X
        have hA := HAG.out j hlt
        have hxs := RR.nm _ (List.getElem_mem hlt)
        have hxt := RR.st _ (List.getElem_mem hlt)
        have HA := Lib.hid (HN.out j hlt)
        have HB' := Lib.hid (HS.out j hlt)
        generalize ((L.take j).filter fun r : Rc => !rngP nm a b r).length = k at *
        generalize L[j]'hlt = x at *
        obtain ⟨z, hz⟩ : ∃ z, agAt L x.nm x.st = z := ⟨_, rfl⟩
        obtain ⟨zb, hzb⟩ : ∃ zb, (findR L x.nm x.st).isSome = zb := ⟨_, rfl⟩
        have hbD : Below wr.heap.size wr ((wr.alloc (.cells #[.int .i64 0, .int .i64 0, .int .u64 0, .int .i64 0, .int .i64 0] 32)).drew) := ((Below.refl _ _).alloc (Nat.le_refl _) _).drew
        have hF := findT_any x.nm x.st (TT.below hbD) hxs hxt
        rw [hA.1, hA.2] at hF
        have hF1 := findT_any x.nm x.st TT.drew hxs hxt
        rw [hA.1, hA.2] at hF1
        have BX := (AgBox.new wr Ag.zero).below ((Below.refl _ _).drew)
        clear hA hz hzb
        have g0 : (0 : Int) ≤ (j : Int) := by omega
        have g1 : (j : Int) < (L.length : Int) := by omega
        go_upto_region 12 with fail
        go_cut [14, 15] (fun s14 s15 wx => FoundBox wr x.ag s14 s15 wx)
        case first =>
         have HMK := Lib.hid (show ∀ w', Below wr.heap.size wr w' → (w'.cell? ⟨bb, off + j * 7, none⟩ = some (.string x.nm) ∧ w'.cell? ⟨bb, off + j * 7 + 1, none⟩ = some (.int .i64 x.st)) from fun w' hb => ⟨(hb.cell (p := ⟨bb, off + j * 7, none⟩) hbb).trans r0, (hb.cell (p := ⟨bb, off + j * 7 + 1, none⟩) hbb).trans r1⟩)
         go_region_held3 (fun w' => w'.cell? ⟨bb, off + j * 7, none⟩ = some (.string x.nm) ∧ w'.cell? ⟨bb, off + j * 7 + 1, none⟩ = some (.int .i64 x.st))
          (first
            | (refine HMK.out _ ?_; first | exact (Below.refl _ _).drew | exact hbD | exact (Below.refl _ _).drew.trans hb7 | exact ((Below.refl _ _).drew.trans hb7).alloc hb7.size _ | exact hbD.trans (hb7.mono (by simp)) | exact (((((hbD.trans (hb7.mono (by simp))).setCell (Nat.le_refl _) _).setCell (Nat.le_refl _) _).setCell (Nat.le_refl _) _).setCell (Nat.le_refl _) _).setCell (Nat.le_refl _) _))
          (first
           | (go_at_call 20; (with_reducible refine hF1.mono ?_); rintro e w7 ⟨rfl, hb7⟩)
           | (go_at_call 20; (with_reducible refine hF.mono ?_); rintro e w7 ⟨rfl, hb7⟩
              have BX7 := BX.below hb7
              obtain ⟨z0, z1, z2, z3, z4⟩ := BX7.cells
              have f0 := BX7.free 0
              have f1 := BX7.free 1
              have f2 := BX7.free 2
              have f3 := BX7.free 3
              have f4 := BX7.free 4))
         all_goals
          go_wp2_with fail
          go_meet
          first
            | exact FoundBox.mk1 hb7
            | exact FoundBox.mk2 hb7 BX7
        case rest =>
          obtain ⟨bx, rfl, rfl, BB, HB⟩ := hcut
          have q0 := (HB.cell (p := ⟨bb, off + j * 7, none⟩) hbb).trans r0
          have q1 := (HB.cell (p := ⟨bb, off + j * 7 + 1, none⟩) hbb).trans r1
          have q2 := (HB.cell (p := ⟨bb, off + j * 7 + 2, none⟩) hbb).trans r2
          have q3 := (HB.cell (p := ⟨bb, off + j * 7 + 3, none⟩) hbb).trans r3
          have q4 := (HB.cell (p := ⟨bb, off + j * 7 + 4, none⟩) hbb).trans r4
          have q5 := (HB.cell (p := ⟨bb, off + j * 7 + 5, none⟩) hbb).trans r5
          have q6 := (HB.cell (p := ⟨bb, off + j * 7 + 6, none⟩) hbb).trans r6
          have hbel2 := hbel.trans (HB.mono hbel.size)
          obtain ⟨y0, y1, y2, y3, y4⟩ := BB.cells
          clear r0 r1 r2 r3 r4 r5 r6 BX hF hF1 HB hbD RR TT BB
          go_wp2
          go_quiet (fail)
          have hdn := below_drewN (Below.refl wc.heap.size wc) nq
          have p0 := (hdn.cell (p := ⟨bb, off + j * 7, none⟩) (World.block_lt_of_cell? _ _ q0)).trans q0
          have p1 := (hdn.cell (p := ⟨bb, off + j * 7 + 1, none⟩) (World.block_lt_of_cell? _ _ q1)).trans q1
          have p2 := (hdn.cell (p := ⟨bb, off + j * 7 + 2, none⟩) (World.block_lt_of_cell? _ _ q2)).trans q2
          have p3 := (hdn.cell (p := ⟨bb, off + j * 7 + 3, none⟩) (World.block_lt_of_cell? _ _ q3)).trans q3
          have p4 := (hdn.cell (p := ⟨bb, off + j * 7 + 4, none⟩) (World.block_lt_of_cell? _ _ q4)).trans q4
          have p5 := (hdn.cell (p := ⟨bb, off + j * 7 + 5, none⟩) (World.block_lt_of_cell? _ _ q5)).trans q5
          have p6 := (hdn.cell (p := ⟨bb, off + j * 7 + 6, none⟩) (World.block_lt_of_cell? _ _ q6)).trans q6
          have hbel3 := hbel2.trans (hdn.mono hbel2.size)
          clear q0 q1 q2 q3 q4 q5 q6 y0 y1 y2 y3 y4 hdn hbel2
          generalize wc.drewN nq = wd at *
          cases h1 : (x.nm.toList == nm.toList)
          · have HK := Lib.hid (show ((L.take (j + 1)).filter fun r : Rc => !rngP nm a b r).length = k from by rw [HB'.out]; simp [rngP, h1])
            clear HA HB'
            go_wp2
            go_roundw
            case rel => exact ⟨j + 1, by omega, by go_num, by rw [HK.out], hbel3⟩
            case measure => simp [intOf]; omega
          by_cases h2 : a ≤ x.st
          · by_cases h3 : x.st < b
            · have hrp : rngP nm a b x = false := by
                unfold rngP
                rw [h1, decide_eq_false (Int.not_lt.2 h2), decide_eq_false (Int.not_le.2 h3)]; rfl
              have HK := Lib.hid (show ((L.take (j + 1)).filter fun r : Rc => !rngP nm a b r).length = k + 1 from by rw [HB'.out, hrp]; simp)
              have hx := HA.out (by rw [hrp]; rfl)
              have hkl : k < M.length := (List.getElem?_eq_some_iff.1 hx).1
              have hxe : M[k] = x := (List.getElem?_eq_some_iff.1 hx).2
              clear HA HB'
              obtain ⟨b2, off2, rfl, _, Y⟩ := (R5.below hbel3).get hkl
              rw [hxe] at Y
              obtain ⟨s0, s1, s2, s3, s4, s5, s6⟩ := Y
              have g2 : (0 : Int) ≤ (k : Int) := by omega
              have g3 : (k : Int) < (M.length : Int) := by omega
              have g4 : decide ((M.length : Int) ≤ (k : Int)) = false := decide_eq_false (by omega)
              go_wp2
              go_quiet (fail)
              go_wp2
              go_roundw
              case rel => exact ⟨j + 1, by omega, by go_num, by rw [HK.out]; go_num, below_drewN hbel3 _⟩
              case measure => simp [intOf]; omega
            · have HK := Lib.hid (show ((L.take (j + 1)).filter fun r : Rc => !rngP nm a b r).length = k from by rw [HB'.out]; simp [rngP]; omega)
              have hd3 : decide (x.st < b) = false := decide_eq_false h3
              clear HA HB'
              go_wp2
              go_roundw
              case rel => exact ⟨j + 1, by omega, by go_num, by rw [HK.out], hbel3⟩
              case measure => simp [intOf]; omega
          · have HK := Lib.hid (show ((L.take (j + 1)).filter fun r : Rc => !rngP nm a b r).length = k from by rw [HB'.out]; simp [rngP]; omega)
            have hd2 : decide (a ≤ x.st) = false := decide_eq_false h2
            clear HA HB'
            go_wp2
            go_roundw
            case rel => exact ⟨j + 1, by omega, by go_num, by rw [HK.out], hbel3⟩
            case measure => simp [intOf]; omega
      · have hje : j = L.length := by omega
        subst hje
        have hMe : ((L.take L.length).filter fun r : Rc => !rngP nm a b r).length = M.length := by rw [List.take_length, ← HM.out]
        rw [hMe]
        clear hMe
        have hbw6 := hbw5.trans (hbel.mono hbw5.size)
        have T6 := T5.below hbel
        have hFQ := fun W T => findT_any (w := W) ⟨#[63]⟩ 0 (g := g) (mm := mm) (ev := 1) (l := L) T (by decide) (by decide)
        rw [HQM.out] at hFQ
        go_wp2_with fail
        refine (hFQ _ T6).mono ?_
        rintro e w7 ⟨rfl, hb7⟩
        have T7 := T6.below hb7
        have hbw7 := hbw6.trans (hb7.mono hbw6.size)
        have T8 := T7.below ((Below.refl _ _).alloc (Nat.le_refl _) (.cells #[.int .i64 (agAt L ⟨#[63]⟩ 0).c, .int .i64 (agAt L ⟨#[63]⟩ 0).hi, .int .u64 (agAt L ⟨#[63]⟩ 0).lo, .int .i64 (agAt L ⟨#[63]⟩ 0).mn, .int .i64 (agAt L ⟨#[63]⟩ 0).mx] 32))
        clear T6 hbw6 hb7 hFQ
        go_wp2_with fail
        refine (alive_any _).mono ?_
        rintro e w8 ⟨rfl, hb8⟩
        have T9 := T8.below hb8
        have hbw9 := (hbw7.alloc hbw7.size _).trans (hb8.mono (by have := hbw7.size; simp; omega))
        clear T7 T8 hbw7 hb8
        go_wp2_with (go_at_call 21; refine (lenT_any T9).mono ?_; rintro e wq ⟨rfl, rfl⟩)
        go_ret
        exact ⟨rfl, hbw9⟩
end Go.Proofs.Ytdlmipoeeiaapaa
