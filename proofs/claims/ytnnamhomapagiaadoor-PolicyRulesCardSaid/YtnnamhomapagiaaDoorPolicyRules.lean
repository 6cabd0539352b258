/-
  PolicyRules: its walk.
-/
import Derived.Test.YtnnamhomapagiaaDoorPolicySame
import Derived.Test.YtnnamhomapagiaaDoorRulesLaws
import Derived.StillTailTactics
namespace Go.Proofs.YtnnamhomapagiaaDoor
open Go.ChangeShapes Go.WideShapes Go.ChangeAt Go.RowKit Go.Deep

theorem row_put4 : ∀ (l : List Ti) (i : Nat) (_ : i < l.length) (t : Ti), ((((l.flatMap Ti.cells).set (i * 4) (.string t.nm)).set (i * 4 + 1) (.int .i64 t.ev)).set (i * 4 + 2) (.int .i64 t.kp)).set (i * 4 + 3) (.int .i64 t.sh) = (l.set i t).flatMap Ti.cells
  | [], i, hi, _ => by simp at hi
  | a :: r, 0, _, t => by
    rw [List.set_cons_zero, List.flatMap_cons, List.flatMap_cons]
    simp [Ti.cells]
  | a :: r, i + 1, hi, t => by
    have e : ∀ q, (i + 1) * 4 + q = 4 + (i * 4 + q) := fun q => by omega
    have e0 : (i + 1) * 4 = 4 + i * 4 := by omega
    have hs : ∀ (xs : List Value) (q : Nat) (u : Value), (a.cells ++ xs).set (4 + q) u = a.cells ++ xs.set q u := fun xs q u => by
      rw [List.set_append_right _ _ (by rw [ti_len]; omega), ti_len, Nat.add_sub_cancel_left]
    rw [List.set_cons_succ, List.flatMap_cons, List.flatMap_cons, e0, hs, Nat.add_assoc, hs, Nat.add_assoc, hs, Nat.add_assoc, hs, row_put4 r i (by simpa using hi) t]
set_option maxRecDepth 100000 in
set_option maxHeartbeats 4000000 in
theorem walk_PolicyRules {v0 : Value} (x : ByteArray × Option Addr × Nat × Nat × List Ti) (k ev kp sh : Int) (w : World) (hm : ∃ m : Int, w.cell? ⟨0, 0, none⟩ = some (.int .i64 m)) (htab : Lib.TabIs Tryd.prog w "internal/strconv.uint64pow10" .u64 Lib.pow10Tab)
    (hx : PolArg w v0 x) (hk : (Lit.int .i64 k).wf = true) (hev : (Lit.int .i64 ev).wf = true) (hkp : (Lit.int .i64 kp).wf = true) (hsh : (Lit.int .i64 sh).wf = true) :
    Calls Tryd.prog 4 #[v0, .int .i64 k, .int .i64 ev, .int .i64 kp, .int .i64 sh] w fun e w' => e = .returned (.bool true) ∧ Below w.heap.size w w' := by
  obtain ⟨nm, A, n, c, ts⟩ := x
  obtain ⟨rfl, hnm, hts, hc⟩ := hx
  simp only at hnm hts hc ⊢
  have hlt0 : 0 < w.heap.size := by obtain ⟨m, h⟩ := hm; have := block_lt_of_cell h; simpa using this
  have HALIVE := Lib.hid (fun W (hW : Below w.heap.size w W) => alive_any W (hm.imp fun m h => (hW.cell (p := ⟨0, 0, none⟩) hlt0).trans h) (Lib.tabBelow_of_tabIs htab W hW))
  have HT := Lib.hid hts
  have hkb := bd_i64' hk
  have HB1 := Lib.hid (bd_i64' hev)
  have HB2 := Lib.hid (bd_i64' hkp)
  have HB3 := Lib.hid (bd_i64' hsh)
  have hln := hts.len
  clear hm htab hlt0 hk hev hkp hsh
  have hb0 : Below w.heap.size w (w.alloc (.cells #[.string nm, .slice A n c] 24)) := (Below.refl _ _).alloc (Nat.le_refl _) _
  have bp := Bx.new w 24 #[.string nm, .slice A n c]
  have p0 := bp.at_ 0 rfl
  have p1 := bp.at_ 1 rfl
  have HCH := Lib.hid (fun W (hW : Below w.heap.size w W) => check_any nm A n c ts W hnm (HT.out.below hW) hc)
  rcases checkR_cases nm.toList ts with hck | ⟨h23, hlo, hhi⟩
  rotate_left
  · have hne : ((checkR nm.toList ts).1 != 0) = true := by rw [h23]; rfl
    rw [h23] at HCH
    obtain ⟨q, hq⟩ : ∃ q, (checkR nm.toList ts).2 = q := ⟨_, rfl⟩
    rw [hq] at HCH hlo hhi
    rw [hln] at hhi
    clear hne h23 hq
    go_enter Tryd.func4, Tryd.ntmps4
    go_wp2_with (first
      | (go_at_call 8; refine (small_any nm A n c ts _ hnm (HT.out.below hb0)).mono ?_; rintro e w2 ⟨b1, rfl, hs1, hb2⟩
         have hbx := hb0.trans (hb2.mono hb0.size)
         have bpx := bp.below hb2
         have p0 := bpx.at_ 0 rfl
         have p1 := bpx.at_ 1 rfl)
      | (go_at_call 13; refine (HCH.out _ hbx).mono ?_; rintro e w3 ⟨rfl, hb3⟩
         have bpx := bpx.below hb3
         have hbx := hbx.trans (hb3.mono hbx.size))
      | (go_at_call 9; refine (HALIVE.out _ hbx).mono ?_; rintro e w5 ⟨rfl, hb5⟩
         have hfin := hbx.trans (hb5.mono hbx.size)
         have bpx := bpx.below hb5
         have p1 := bpx.at_ 1 rfl))
    all_goals
      go_ret
      exact ⟨rfl, hfin⟩
  have HFINE := Lib.hid (check_fine hck)
  rw [hck] at HCH
  go_enter Tryd.func4, Tryd.ntmps4
  go_upto_region 6 with (first
    | (go_at_call 8; refine (small_any nm A n c ts _ hnm (HT.out.below hb0)).mono ?_; rintro e w2 ⟨b1, rfl, hs1, hb2⟩
       have hbx := hb0.trans (hb2.mono hb0.size)
       have bpx := bp.below hb2
       have p0 := bpx.at_ 0 rfl
       have p1 := bpx.at_ 1 rfl)
    | (go_at_call 13; refine (HCH.out _ hbx).mono ?_; rintro e w3 ⟨rfl, hb3⟩
       have bpx := bpx.below hb3
       have hbx := hbx.trans (hb3.mono hbx.size))
    | (go_at_call 9; refine (HALIVE.out _ hbx).mono ?_; rintro e w5 ⟨rfl, hb5⟩
       have hfin := hbx.trans (hb5.mono hbx.size)))
  all_goals try (go_ret; exact ⟨rfl, hfin⟩)
  have h10 : n ≤ 10 := (hs1 (by first | assumption | simpa using (by assumption : (!b1) = false))).1
  clear hs1 hb2 hb3 bp hb0 p0 p1
  go_wp2_with fail
  go_loopw [13, 14] (fun i _ wr => ∃ j : Nat, j ≤ n ∧ i = .int .i64 j ∧ Bx wr w.heap.size 24 #[.string nm, .slice A n c] ∧ Below w.heap.size w wr) (fun i _ _ => n - (intOf i).toNat)
  case atStart => exact ⟨0, Nat.zero_le _, rfl, bpx, hbx⟩
  case round =>
    clear bpx hbx
    obtain ⟨j, hj, rfl, bx, hbr⟩ := hrel
    have q1 := bx.at_ 1 rfl
    by_cases hlt : j < n
    · have K : j < ts.length := by omega
      obtain ⟨hv, _, _, hfine, hall⟩ := HFINE.out
      have hbad := hall j K
      have hf := hfine _ (List.getElem_mem K)
      obtain ⟨⟨he1, he2⟩, ⟨hk1, hk2⟩, hs1, hs2⟩ := And.intro hf.ev (And.intro hf.kp hf.sh)
      rw [badAt_is ts j K] at hbad
      simp only [Bool.or_eq_false_iff] at hbad
      have hbad3 := hbad.2
      obtain ⟨b, off, rfl, hbl, X⟩ := (HT.out.below hbr).get K
      obtain ⟨r0, r1, r2, r3⟩ := X
      have g0 : (0 : Int) ≤ (j : Int) := by omega
      have g1 : (j : Int) < (n : Int) := by omega
      have hbx := (Below.refl wr.heap.size wr).alloc (Nat.le_refl _) (.cells #[.string (ts[j]'K).nm, .int .i64 (ts[j]'K).ev, .int .i64 (ts[j]'K).kp, .int .i64 (ts[j]'K).sh] 37)
      have bx1 := bx.below hbx
      have hbr1 := hbr.trans (hbx.mono hbr.size)
      have q2 := bx1.at_ 1 rfl
      have XB := Bx.new wr 37 #[.string (ts[j]'K).nm, .int .i64 (ts[j]'K).ev, .int .i64 (ts[j]'K).kp, .int .i64 (ts[j]'K).sh]
      have y1 := XB.at_ 1 rfl
      have y2 := XB.at_ 2 rfl
      have y3 := XB.at_ 3 rfl
      clear XB
      have z1 : decide ((ts[j]'K).ev < 1) = false := decide_eq_false (by omega)
      have z2 : decide ((ts[j]'K).kp < 1) = false := decide_eq_false (by omega)
      have z3 : decide ((ts[j]'K).sh < 1) = false := decide_eq_false (by omega)
      have z4 : decide (8 < (ts[j]'K).sh) = false := decide_eq_false (by omega)
      by_cases h0 : j = 0
      · rw [if_pos h0] at hbad3
        have he : ((ts[j]'K).ev == 1) = true := by simpa using hbad3
        have he' : ((ts[j]'K).ev != 1) = false := by simpa using hbad3
        have hci : ((j : Int) == 0) = true := by rw [h0]; rfl
        have hgt : decide ((j : Int) > 0) = false := decide_eq_false (by omega)
        have hgt2 : decide (0 < (j : Int)) = false := decide_eq_false (by omega)
        have hgt3 : decide (0 < j) = false := decide_eq_false (by omega)
        have hgt4 : ¬ 0 < j := by omega
        clear h0
        generalize (ts[j]'K) = x at *
        clear hbad hbad3 hall hfine hf
        go_upto_region 10 with fail
        generalize wr.alloc (.cells #[.string x.nm, .int .i64 x.ev, .int .i64 x.kp, .int .i64 x.sh] 37) = w5 at *
        dsimp only [List.append]
        go_quiet (fail)
        go_wp2
        go_roundw
        case rel => exact ⟨j + 1, by omega, by go_num, bx1.below (below_drewN (Below.refl _ _) _), below_drewN hbr1 _⟩
        case measure => simp [intOf]; omega
      · rw [if_neg h0] at hbad3
        have K3 : j - 1 < ts.length := by omega
        rw [List.getElem?_eq_getElem K3] at hbad3
        have hb2 : badTwo (ts[j - 1]'K3) (ts[j]'K) = false := hbad3
        have ho := badAt_ev ts (j - 1) K3 (hall (j - 1) K3)
        obtain ⟨b', off', e', _, Z⟩ := ((HT.out.below hbr).below hbx).get K3
        cases e'
        obtain ⟨u0, u1, u2, u3⟩ := Z
        unfold badTwo at hb2
        simp only [Bool.or_eq_false_iff, decide_eq_false_iff_not, Bool.not_eq_false'] at hb2
        obtain ⟨w1, w2', w3'⟩ := hb2
        have hci : ((j : Int) == 0) = false := beq_eq_false_iff_ne.2 (by omega)
        have hgt : decide ((j : Int) > 0) = true := decide_eq_true (by omega)
        have hgt2 : decide (0 < (j : Int)) = true := decide_eq_true (by omega)
        have hgt3 : decide (0 < j) = true := decide_eq_true (by omega)
        have hgt4 : 0 < j := by omega
        have g4 : 1 ≤ j := by omega
        have g5 : (1 : Int) ≤ (j : Int) := by omega
        have g6 : j < n + 1 := by omega
        have g7 : (j : Int) < (n : Int) + 1 := by omega
        have g8 : (j : Int) ≤ (n : Int) := by omega
        have hw1 : IntKind.i64.wrap ((j : Int) - 1) = (j : Int) - 1 := IntWalk.i64_in _ (by omega)
        have ht1 : ((j : Int) - 1).toNat = j - 1 := by omega
        have g2 : (0 : Int) ≤ (j : Int) - 1 := by omega
        have g3 : (j : Int) - 1 < (n : Int) := by omega
        generalize (ts[j]'K) = x at *
        generalize (ts[j - 1]'K3) = o at *
        have ho0 : o.ev ≠ 0 := by omega
        have ho0' : (o.ev == 0) = false := beq_eq_false_iff_ne.2 ho0
        have hm0 : (x.ev.tmod o.ev != 0) = false := by simpa using w2'
        have hne : (x.ev == o.ev) = false := beq_eq_false_iff_ne.2 (by omega)
        have hlt3 : decide (x.kp < o.kp) = false := decide_eq_false w3'
        clear hbad hbad3 hall hfine hf
        go_upto_region 10 with fail
        generalize wr.alloc (.cells #[.string x.nm, .int .i64 x.ev, .int .i64 x.kp, .int .i64 x.sh] 37) = w5 at *
        dsimp only [List.append]
        go_quiet (fail)
        go_wp2
        go_roundw
        case rel => exact ⟨j + 1, by omega, by go_num, bx1.below (below_drewN (Below.refl _ _) _), below_drewN hbr1 _⟩
        case measure => simp [intOf]; omega
    · have hje : j = n := by omega
      subst hje
      have hd : decide ((j : Int) < (j : Int)) = false := decide_eq_false (by omega)
      clear hlt hj
      by_cases hkk : 0 ≤ k ∧ k < j
      rotate_left
      · have hkk : k < 0 ∨ (j : Int) ≤ k := by omega
        rcases hkk with hk | hk
        all_goals
          go_wp2_with (go_at_call 9; refine (HALIVE.out _ hbr).mono ?_; rintro e w6 ⟨rfl, hb6⟩)
          go_ret
          exact ⟨rfl, hbr.trans (hb6.mono hbr.size)⟩
      obtain ⟨hk0, hk1⟩ := hkk
      obtain ⟨i, rfl⟩ : ∃ i : Nat, k = i := ⟨k.toNat, by omega⟩
      have hin : i < j := by omega
      have hit : i < ts.length := by omega
      have hba := (Below.refl wr.heap.size wr).alloc (Nat.le_refl _) (.cells #[.string nm, .slice A j c] 24)
      have bq := Bx.new wr 24 #[.string nm, .slice A j c]
      have bp := bx.below hba
      have hbq := hbr.trans (hba.mono hbr.size)
      have q0 := bx.at_ 0 rfl
      go_upto_region 15 with fail
      generalize hW7 : wr.alloc (.cells #[.string nm, .slice A j c] 24) = w7 at *
      obtain ⟨bc, hbc⟩ : ∃ bc, bc = wr.heap.size := ⟨_, rfl⟩
      rw [← hbc] at bq ⊢
      have hbc7 : bc < w7.heap.size := bq.lt
      have hbcw : w.heap.size < bc := by have := bx.lt; omega
      have p1 := bp.at_ 1 rfl
      have T7 := HT.out.below hbq
      obtain ⟨i0, hi, hz0, hz1, hz2⟩ := info_parts info_tier
      have HFL := Lib.hid (show (ts.flatMap Ti.cells).length = j * 4 from by rw [rowK_len ti_len]; omega)
      clear hba q1 q0 hd hbc hW7 bx hbr
      go_upto_region 16 with (first
        | (at_builtin; refine wpList_append_sl _ rfl _ _ 22 rfl w7.heap.size 37 i0 _ 4 40 Tryd.underlying22 hi hz0 hz1 hz2 rfl (by decide) (.slice none 0 0) 0 [] rfl (World.ownsRow_nil _ _ _ _) A j c (ts.flatMap Ti.cells) rfl HFL.out T7.sl (tis_one ts) (by unfold maxLen; omega) (by omega) (Nat.le_refl _) ?_
           intro v' w8 hown8 hg8 _
           rw [Nat.zero_add, List.nil_append] at hown8
           obtain ⟨g, c8, e8⟩ : ∃ g c8, v' = .slice (some ⟨g, 0, none⟩) j c8 := by
             rcases hown8.2 with ⟨_, h0⟩ | ⟨g, cap, cur, e, _⟩
             · omega
             · exact ⟨g, cap, e⟩
           subst e8
           have hb8 := (Below.refl w7.heap.size w7).grown hg8 (Nat.le_refl _) (fun k hk => by cases hk)
           have bq8 := bq.below hb8
           have bp8 := bp.below hb8
           have z1 := bq8.at_ 1 rfl
           have z2 := bq8.free 1))
      obtain ⟨hgl, hgl2⟩ := hown8.lt g rfl
      have hjc8 : j ≤ c8 := by obtain ⟨_, _, e, h, _⟩ := own_slice hown8; cases e; exact h
      have bq9 := bq8.set 1 (.slice (some ⟨g, 0, none⟩) j c8)
      have bp9 := bp8.other (p := ⟨bc, 1, none⟩) (by show w.heap.size ≠ bc; omega) (.slice (some ⟨g, 0, none⟩) j c8)
      have hown9 := own_far hown8 (p := ⟨bc, 1, none⟩) (fun k hk => by simp only [Value.ownBlock, Option.some.injEq] at hk; show k ≠ bc; omega) (.slice (some ⟨g, 0, none⟩) j c8)
      have hbq9 : Below w.heap.size w (w8.setCell ⟨bc, 1, none⟩ (.slice (some ⟨g, 0, none⟩) j c8)) := (hbq.trans (hb8.mono hbq.size)).setCell (by show w.heap.size ≤ bc; omega) _
      generalize hW9 : w8.setCell ⟨bc, 1, none⟩ (.slice (some ⟨g, 0, none⟩) j c8) = w9 at *
      have hgw : w.heap.size < g := by omega
      have hgbc : g ≠ bc := by omega
      clear hW9 bq8 bp8 z1 z2 hown8 hg8 hb8 bq bp p1 T7
      have y1 := bq9.at_ 1 rfl
      have hcell := hown9.cellAt (i * 4 + 3) (by omega)
      rw [rowK_get ti_len ts i hit 3 (by omega)] at hcell
      rw [show (ts[i]'hit).cells[3]? = some (.int .i64 (ts[i]'hit).sh) from rfl] at hcell
      have hfz := hown9.frozenAt (i * 4 + 3)
      have hst := (hown9.stored (i * 4 + 3) (.int .i64 sh)).1
      rw [rowK_set ti_len ts i hit 3 ⟨(ts[i]'hit).nm, (ts[i]'hit).ev, (ts[i]'hit).kp, sh⟩ _ (by omega) rfl] at hst
      have HCS := Lib.hid (check_set hck i hit sh)
      have hokt := HT.out.ok _ (List.getElem_mem hit)
      obtain ⟨us, hus⟩ : ∃ us, us = ts.set i ⟨(ts[i]'hit).nm, (ts[i]'hit).ev, (ts[i]'hit).kp, sh⟩ := ⟨_, rfl⟩
      rw [← hus] at hst HCS
      have hul : us.length = j := by rw [hus, List.length_set]; omega
      have huok : ∀ x ∈ us, x.Ok := by rw [hus]; exact ok_set HT.out.ok ⟨hokt.nm, hokt.ev, hokt.kp, HB3.out⟩
      have hui : us[i]'(by omega) = ⟨(ts[i]'hit).nm, (ts[i]'hit).ev, (ts[i]'hit).kp, sh⟩ := by simp only [hus, List.getElem_set_self]
      have T10 := Lib.hid (show Tis _ (some ⟨g, 0, none⟩) j us from by obtain ⟨A2, c2, e, hh⟩ := own_tis hst hul huok (by unfold maxLen; omega); cases e; exact hh)
      have bq10 := bq9.other (p := ⟨g, i * 4 + 3, none⟩) (by show bc ≠ g; omega) (.int .i64 sh)
      have bp10 := bp9.other (p := ⟨g, i * 4 + 3, none⟩) (by show w.heap.size ≠ g; omega) (.int .i64 sh)
      have hbq10 := hbq9.setCell (p := ⟨g, i * 4 + 3, none⟩) (by show w.heap.size ≤ g; omega) (.int .i64 sh)
      have g0 : (0 : Int) ≤ (i : Int) := by omega
      have HOWN := Lib.hid hst
      clear hown9 hst huok
      go_upto_region 17 with fail
      generalize w9.setCell ⟨g, i * 4 + 3, none⟩ (.int .i64 sh) = w10 at *
      clear hcell hfz bq9 bp9 hbq9 y1
      have y0 := bq10.at_ 0 rfl
      have y1 := bq10.at_ 1 rfl
      have HC10 := Lib.hid (check_any nm (some ⟨g, 0, none⟩) j c8 us w10 hnm T10.out hjc8)
      rw [HCS.out] at HC10
      have hadd : IntKind.i64.wrap ((i : Int) + 1) = (i : Int) + 1 := IntWalk.i64_in _ (by omega)
      have hsame : (((i : Int) + 1) != ((i : Int) + 1)) = false := by simp
      have hor : (1 ≤ sh ∧ sh ≤ 8) ∨ sh < 1 ∨ 8 < sh := by omega
      have key : ∀ w11, Below w10.heap.size w10 w11 → True := fun _ _ => trivial
      clear key
      rcases hor with ⟨hs1, hs2⟩ | hs | hs
      · rw [if_pos ⟨hs1, hs2⟩] at HC10
        go_upto_region 20 with (first
          | (go_at_call 13; refine HC10.out.mono ?_; rintro e w11 ⟨rfl, hb11⟩))
        have hbD := hb11
        have bqD := bq10.below hbD
        have bpD := bp10.below hbD
        have hbqD := hbq10.trans (hbD.mono hbq10.size)
        have ownD := own_below HOWN.out hbD
        obtain ⟨b, off, hA, _, X⟩ := (HT.out.below hbqD).get hit
        have x0 := X.c0
        have p1 := bpD.at_ 1 rfl
        have r1 := bqD.at_ 1 rfl
        rw [hA] at p1
        have hc0 := ownD.cellAt (i * 4 + 0) (by omega)
        have hc1 := ownD.cellAt (i * 4 + 1) (by omega)
        have hc2 := ownD.cellAt (i * 4 + 2) (by omega)
        have hc3 := ownD.cellAt (i * 4 + 3) (by omega)
        rw [rowK_get ti_len us i (by omega) 0 (by omega)] at hc0
        rw [rowK_get ti_len us i (by omega) 1 (by omega)] at hc1
        rw [rowK_get ti_len us i (by omega) 2 (by omega)] at hc2
        rw [rowK_get ti_len us i (by omega) 3 (by omega)] at hc3
        rw [Nat.add_zero] at hc0
        rw [show (us[i]'(by omega)).cells[0]? = some (.string (us[i]'(by omega)).nm) from rfl] at hc0
        rw [show (us[i]'(by omega)).cells[1]? = some (.int .i64 (us[i]'(by omega)).ev) from rfl] at hc1
        rw [show (us[i]'(by omega)).cells[2]? = some (.int .i64 (us[i]'(by omega)).kp) from rfl] at hc2
        rw [show (us[i]'(by omega)).cells[3]? = some (.int .i64 (us[i]'(by omega)).sh) from rfl] at hc3
        have hf0 := ownD.frozenAt (i * 4)
        have hf1 := ownD.frozenAt (i * 4 + 1)
        have hf2 := ownD.frozenAt (i * 4 + 2)
        have hf3 := ownD.frozenAt (i * 4 + 3)
        have ht := HT.out.ok _ (List.getElem_mem hit)
        have hst := ((((ownD.stored (i * 4) (.string (ts[i]'hit).nm)).1.stored (i * 4 + 1) (.int .i64 ev)).1.stored (i * 4 + 2) (.int .i64 kp)).1.stored (i * 4 + 3) (.int .i64 1)).1
        have hrp := row_put4 us i (by omega) ⟨(ts[i]'hit).nm, ev, kp, 1⟩
        simp only at hrp
        rw [hrp] at hst
        have huok : ∀ x ∈ us, x.Ok := T10.out.ok
        have hvok : ∀ x ∈ us.set i ⟨(ts[i]'hit).nm, ev, kp, 1⟩, x.Ok := ok_set huok ⟨ht.nm, HB1.out, HB2.out, by show (-9223372036854775808 : Int) ≤ 1 ∧ (1 : Int) ≤ 9223372036854775807; omega⟩
        have hvl : (us.set i ⟨(ts[i]'hit).nm, ev, kp, 1⟩).length = j := by rw [List.length_set]; exact hul
        have T12 := Lib.hid (show Tis _ (some ⟨g, 0, none⟩) j (us.set i ⟨(ts[i]'hit).nm, ev, kp, 1⟩) from by obtain ⟨A2, c2, e, hh⟩ := own_tis hst hvl hvok (by unfold maxLen; omega); cases e; exact hh)
        have bq12 := Lib.hid ((((bqD.other (p := ⟨g, i * 4, none⟩) (by show bc ≠ g; omega) (.string (ts[i]'hit).nm)).other (p := ⟨g, i * 4 + 1, none⟩) (by show bc ≠ g; omega) (.int .i64 ev)).other (p := ⟨g, i * 4 + 2, none⟩) (by show bc ≠ g; omega) (.int .i64 kp)).other (p := ⟨g, i * 4 + 3, none⟩) (by show bc ≠ g; omega) (.int .i64 1))
        have hb12 := Lib.hid ((((hbqD.setCell (p := ⟨g, i * 4, none⟩) (by show w.heap.size ≤ g; omega) (.string (ts[i]'hit).nm)).setCell (p := ⟨g, i * 4 + 1, none⟩) (by show w.heap.size ≤ g; omega) (.int .i64 ev)).setCell (p := ⟨g, i * 4 + 2, none⟩) (by show w.heap.size ≤ g; omega) (.int .i64 kp)).setCell (p := ⟨g, i * 4 + 3, none⟩) (by show w.heap.size ≤ g; omega) (.int .i64 1))
        have hdr : ∀ W : World, Below W.heap.size W W.drew := fun W => (Below.refl _ _).drew
        have T12 := Lib.hid (T12.out.below (hdr _))
        have bq12 := Lib.hid (bq12.out.below (hdr _))
        have hb12 := Lib.hid (hb12.out.trans ((hdr _).mono hb12.out.size))
        clear hst hrp hvok huok ownD X hbqD hbD bqD bpD hdr
        generalize (ts[i]'hit).nm = ni at *
        generalize us.set i ⟨ni, ev, kp, 1⟩ = vs at *
        go_still_tail 13, (by kernel_rfl)
        change wpList _ _ _ _ _ w11.drew
        go_upto_region 21 with fail
        generalize ((((w11.setCell ⟨g, i * 4, none⟩ (.string ni)).setCell ⟨g, i * 4 + 1, none⟩ (.int .i64 ev)).setCell ⟨g, i * 4 + 2, none⟩ (.int .i64 kp)).setCell ⟨g, i * 4 + 3, none⟩ (.int .i64 1)).drew = w12 at *
        have s0 := bq12.out.at_ 0 rfl
        have s1 := bq12.out.at_ 1 rfl
        go_wp2_with (first
          | (go_at_call 13; refine (check_any nm (some ⟨g, 0, none⟩) j c8 vs w12 hnm T12.out hjc8).mono ?_; rintro e w13 ⟨rfl, hb13⟩
             have bq13 := Lib.hid (bq12.out.below hb13)
             have s0 := bq13.out.at_ 0 rfl
             have s1 := bq13.out.at_ 1 rfl)
          | (go_at_call 14; refine (refCheck_any nm (some ⟨g, 0, none⟩) j c8 vs w13 hnm (T12.out.below hb13)).mono ?_; rintro e w14 ⟨rfl, hb14⟩
             have hb15 := (hb12.out.trans (hb13.mono hb12.out.size)).trans (hb14.mono (hb12.out.trans (hb13.mono hb12.out.size)).size))
          | (go_at_call 9; refine (HALIVE.out _ hb15).mono ?_; rintro e w16 ⟨rfl, hb16⟩))
        go_ret
        exact ⟨rfl, hb15.trans (hb16.mono hb15.size)⟩
      · rw [if_neg (by omega)] at HC10
        go_upto_region 20 with (first
          | (go_at_call 13; refine HC10.out.mono ?_; rintro e w11 ⟨rfl, hb11⟩))
        have hbD := hb11
        have bqD := bq10.below hbD
        have bpD := bp10.below hbD
        have hbqD := hbq10.trans (hbD.mono hbq10.size)
        have ownD := own_below HOWN.out hbD
        obtain ⟨b, off, hA, _, X⟩ := (HT.out.below hbqD).get hit
        have x0 := X.c0
        have p1 := bpD.at_ 1 rfl
        have r1 := bqD.at_ 1 rfl
        rw [hA] at p1
        have hc0 := ownD.cellAt (i * 4 + 0) (by omega)
        have hc1 := ownD.cellAt (i * 4 + 1) (by omega)
        have hc2 := ownD.cellAt (i * 4 + 2) (by omega)
        have hc3 := ownD.cellAt (i * 4 + 3) (by omega)
        rw [rowK_get ti_len us i (by omega) 0 (by omega)] at hc0
        rw [rowK_get ti_len us i (by omega) 1 (by omega)] at hc1
        rw [rowK_get ti_len us i (by omega) 2 (by omega)] at hc2
        rw [rowK_get ti_len us i (by omega) 3 (by omega)] at hc3
        rw [Nat.add_zero] at hc0
        rw [show (us[i]'(by omega)).cells[0]? = some (.string (us[i]'(by omega)).nm) from rfl] at hc0
        rw [show (us[i]'(by omega)).cells[1]? = some (.int .i64 (us[i]'(by omega)).ev) from rfl] at hc1
        rw [show (us[i]'(by omega)).cells[2]? = some (.int .i64 (us[i]'(by omega)).kp) from rfl] at hc2
        rw [show (us[i]'(by omega)).cells[3]? = some (.int .i64 (us[i]'(by omega)).sh) from rfl] at hc3
        have hf0 := ownD.frozenAt (i * 4)
        have hf1 := ownD.frozenAt (i * 4 + 1)
        have hf2 := ownD.frozenAt (i * 4 + 2)
        have hf3 := ownD.frozenAt (i * 4 + 3)
        have ht := HT.out.ok _ (List.getElem_mem hit)
        have hst := ((((ownD.stored (i * 4) (.string (ts[i]'hit).nm)).1.stored (i * 4 + 1) (.int .i64 ev)).1.stored (i * 4 + 2) (.int .i64 kp)).1.stored (i * 4 + 3) (.int .i64 1)).1
        have hrp := row_put4 us i (by omega) ⟨(ts[i]'hit).nm, ev, kp, 1⟩
        simp only at hrp
        rw [hrp] at hst
        have huok : ∀ x ∈ us, x.Ok := T10.out.ok
        have hvok : ∀ x ∈ us.set i ⟨(ts[i]'hit).nm, ev, kp, 1⟩, x.Ok := ok_set huok ⟨ht.nm, HB1.out, HB2.out, by show (-9223372036854775808 : Int) ≤ 1 ∧ (1 : Int) ≤ 9223372036854775807; omega⟩
        have hvl : (us.set i ⟨(ts[i]'hit).nm, ev, kp, 1⟩).length = j := by rw [List.length_set]; exact hul
        have T12 := Lib.hid (show Tis _ (some ⟨g, 0, none⟩) j (us.set i ⟨(ts[i]'hit).nm, ev, kp, 1⟩) from by obtain ⟨A2, c2, e, hh⟩ := own_tis hst hvl hvok (by unfold maxLen; omega); cases e; exact hh)
        have bq12 := Lib.hid ((((bqD.other (p := ⟨g, i * 4, none⟩) (by show bc ≠ g; omega) (.string (ts[i]'hit).nm)).other (p := ⟨g, i * 4 + 1, none⟩) (by show bc ≠ g; omega) (.int .i64 ev)).other (p := ⟨g, i * 4 + 2, none⟩) (by show bc ≠ g; omega) (.int .i64 kp)).other (p := ⟨g, i * 4 + 3, none⟩) (by show bc ≠ g; omega) (.int .i64 1))
        have hb12 := Lib.hid ((((hbqD.setCell (p := ⟨g, i * 4, none⟩) (by show w.heap.size ≤ g; omega) (.string (ts[i]'hit).nm)).setCell (p := ⟨g, i * 4 + 1, none⟩) (by show w.heap.size ≤ g; omega) (.int .i64 ev)).setCell (p := ⟨g, i * 4 + 2, none⟩) (by show w.heap.size ≤ g; omega) (.int .i64 kp)).setCell (p := ⟨g, i * 4 + 3, none⟩) (by show w.heap.size ≤ g; omega) (.int .i64 1))
        have hdr : ∀ W : World, Below W.heap.size W W.drew := fun W => (Below.refl _ _).drew
        have T12 := Lib.hid (T12.out.below (hdr _))
        have bq12 := Lib.hid (bq12.out.below (hdr _))
        have hb12 := Lib.hid (hb12.out.trans ((hdr _).mono hb12.out.size))
        clear hst hrp hvok huok ownD X hbqD hbD bqD bpD hdr
        generalize (ts[i]'hit).nm = ni at *
        generalize us.set i ⟨ni, ev, kp, 1⟩ = vs at *
        go_still_tail 13, (by kernel_rfl)
        change wpList _ _ _ _ _ w11.drew
        go_upto_region 21 with fail
        generalize ((((w11.setCell ⟨g, i * 4, none⟩ (.string ni)).setCell ⟨g, i * 4 + 1, none⟩ (.int .i64 ev)).setCell ⟨g, i * 4 + 2, none⟩ (.int .i64 kp)).setCell ⟨g, i * 4 + 3, none⟩ (.int .i64 1)).drew = w12 at *
        have s0 := bq12.out.at_ 0 rfl
        have s1 := bq12.out.at_ 1 rfl
        go_wp2_with (first
          | (go_at_call 13; refine (check_any nm (some ⟨g, 0, none⟩) j c8 vs w12 hnm T12.out hjc8).mono ?_; rintro e w13 ⟨rfl, hb13⟩
             have bq13 := Lib.hid (bq12.out.below hb13)
             have s0 := bq13.out.at_ 0 rfl
             have s1 := bq13.out.at_ 1 rfl)
          | (go_at_call 14; refine (refCheck_any nm (some ⟨g, 0, none⟩) j c8 vs w13 hnm (T12.out.below hb13)).mono ?_; rintro e w14 ⟨rfl, hb14⟩
             have hb15 := (hb12.out.trans (hb13.mono hb12.out.size)).trans (hb14.mono (hb12.out.trans (hb13.mono hb12.out.size)).size))
          | (go_at_call 9; refine (HALIVE.out _ hb15).mono ?_; rintro e w16 ⟨rfl, hb16⟩))
        go_ret
        exact ⟨rfl, hb15.trans (hb16.mono hb15.size)⟩
      · rw [if_neg (by omega)] at HC10
        go_upto_region 20 with (first
          | (go_at_call 13; refine HC10.out.mono ?_; rintro e w11 ⟨rfl, hb11⟩))
        have hbD := hb11
        have bqD := bq10.below hbD
        have bpD := bp10.below hbD
        have hbqD := hbq10.trans (hbD.mono hbq10.size)
        have ownD := own_below HOWN.out hbD
        obtain ⟨b, off, hA, _, X⟩ := (HT.out.below hbqD).get hit
        have x0 := X.c0
        have p1 := bpD.at_ 1 rfl
        have r1 := bqD.at_ 1 rfl
        rw [hA] at p1
        have hc0 := ownD.cellAt (i * 4 + 0) (by omega)
        have hc1 := ownD.cellAt (i * 4 + 1) (by omega)
        have hc2 := ownD.cellAt (i * 4 + 2) (by omega)
        have hc3 := ownD.cellAt (i * 4 + 3) (by omega)
        rw [rowK_get ti_len us i (by omega) 0 (by omega)] at hc0
        rw [rowK_get ti_len us i (by omega) 1 (by omega)] at hc1
        rw [rowK_get ti_len us i (by omega) 2 (by omega)] at hc2
        rw [rowK_get ti_len us i (by omega) 3 (by omega)] at hc3
        rw [Nat.add_zero] at hc0
        rw [show (us[i]'(by omega)).cells[0]? = some (.string (us[i]'(by omega)).nm) from rfl] at hc0
        rw [show (us[i]'(by omega)).cells[1]? = some (.int .i64 (us[i]'(by omega)).ev) from rfl] at hc1
        rw [show (us[i]'(by omega)).cells[2]? = some (.int .i64 (us[i]'(by omega)).kp) from rfl] at hc2
        rw [show (us[i]'(by omega)).cells[3]? = some (.int .i64 (us[i]'(by omega)).sh) from rfl] at hc3
        have hf0 := ownD.frozenAt (i * 4)
        have hf1 := ownD.frozenAt (i * 4 + 1)
        have hf2 := ownD.frozenAt (i * 4 + 2)
        have hf3 := ownD.frozenAt (i * 4 + 3)
        have ht := HT.out.ok _ (List.getElem_mem hit)
        have hst := ((((ownD.stored (i * 4) (.string (ts[i]'hit).nm)).1.stored (i * 4 + 1) (.int .i64 ev)).1.stored (i * 4 + 2) (.int .i64 kp)).1.stored (i * 4 + 3) (.int .i64 1)).1
        have hrp := row_put4 us i (by omega) ⟨(ts[i]'hit).nm, ev, kp, 1⟩
        simp only at hrp
        rw [hrp] at hst
        have huok : ∀ x ∈ us, x.Ok := T10.out.ok
        have hvok : ∀ x ∈ us.set i ⟨(ts[i]'hit).nm, ev, kp, 1⟩, x.Ok := ok_set huok ⟨ht.nm, HB1.out, HB2.out, by show (-9223372036854775808 : Int) ≤ 1 ∧ (1 : Int) ≤ 9223372036854775807; omega⟩
        have hvl : (us.set i ⟨(ts[i]'hit).nm, ev, kp, 1⟩).length = j := by rw [List.length_set]; exact hul
        have T12 := Lib.hid (show Tis _ (some ⟨g, 0, none⟩) j (us.set i ⟨(ts[i]'hit).nm, ev, kp, 1⟩) from by obtain ⟨A2, c2, e, hh⟩ := own_tis hst hvl hvok (by unfold maxLen; omega); cases e; exact hh)
        have bq12 := Lib.hid ((((bqD.other (p := ⟨g, i * 4, none⟩) (by show bc ≠ g; omega) (.string (ts[i]'hit).nm)).other (p := ⟨g, i * 4 + 1, none⟩) (by show bc ≠ g; omega) (.int .i64 ev)).other (p := ⟨g, i * 4 + 2, none⟩) (by show bc ≠ g; omega) (.int .i64 kp)).other (p := ⟨g, i * 4 + 3, none⟩) (by show bc ≠ g; omega) (.int .i64 1))
        have hb12 := Lib.hid ((((hbqD.setCell (p := ⟨g, i * 4, none⟩) (by show w.heap.size ≤ g; omega) (.string (ts[i]'hit).nm)).setCell (p := ⟨g, i * 4 + 1, none⟩) (by show w.heap.size ≤ g; omega) (.int .i64 ev)).setCell (p := ⟨g, i * 4 + 2, none⟩) (by show w.heap.size ≤ g; omega) (.int .i64 kp)).setCell (p := ⟨g, i * 4 + 3, none⟩) (by show w.heap.size ≤ g; omega) (.int .i64 1))
        have hdr : ∀ W : World, Below W.heap.size W W.drew := fun W => (Below.refl _ _).drew
        have T12 := Lib.hid (T12.out.below (hdr _))
        have bq12 := Lib.hid (bq12.out.below (hdr _))
        have hb12 := Lib.hid (hb12.out.trans ((hdr _).mono hb12.out.size))
        clear hst hrp hvok huok ownD X hbqD hbD bqD bpD hdr
        generalize (ts[i]'hit).nm = ni at *
        generalize us.set i ⟨ni, ev, kp, 1⟩ = vs at *
        go_still_tail 13, (by kernel_rfl)
        change wpList _ _ _ _ _ w11.drew
        go_upto_region 21 with fail
        generalize ((((w11.setCell ⟨g, i * 4, none⟩ (.string ni)).setCell ⟨g, i * 4 + 1, none⟩ (.int .i64 ev)).setCell ⟨g, i * 4 + 2, none⟩ (.int .i64 kp)).setCell ⟨g, i * 4 + 3, none⟩ (.int .i64 1)).drew = w12 at *
        have s0 := bq12.out.at_ 0 rfl
        have s1 := bq12.out.at_ 1 rfl
        go_wp2_with (first
          | (go_at_call 13; refine (check_any nm (some ⟨g, 0, none⟩) j c8 vs w12 hnm T12.out hjc8).mono ?_; rintro e w13 ⟨rfl, hb13⟩
             have bq13 := Lib.hid (bq12.out.below hb13)
             have s0 := bq13.out.at_ 0 rfl
             have s1 := bq13.out.at_ 1 rfl)
          | (go_at_call 14; refine (refCheck_any nm (some ⟨g, 0, none⟩) j c8 vs w13 hnm (T12.out.below hb13)).mono ?_; rintro e w14 ⟨rfl, hb14⟩
             have hb15 := (hb12.out.trans (hb13.mono hb12.out.size)).trans (hb14.mono (hb12.out.trans (hb13.mono hb12.out.size)).size))
          | (go_at_call 9; refine (HALIVE.out _ hb15).mono ?_; rintro e w16 ⟨rfl, hb16⟩))
        go_ret
        exact ⟨rfl, hb15.trans (hb16.mono hb15.size)⟩
end Go.Proofs.YtnnamhomapagiaaDoor
