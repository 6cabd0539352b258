/-
  The document's own view: the records of a tier.
-/
import Derived.Test.YtcglbbabfkbcbadGreatM14
import Derived.Test.YtcglbbabfkbcbadGreatM9
namespace Go.Proofs.YtcglbbabfkbcbadGreat
open Go.RowKit Go.Deep

theorem addR_ev {ev : Int} {l : List Rc} {x : Rc} (h1 : rightR 1 x = true) (h2 : rightR ev x = true) : addR 1 l x = addR ev l x := by
  unfold addR; rw [if_pos h1, if_pos h2]
theorem view_len' (r : Rch) (i : Int) (l : List Smp) : (viewL r i l).length ≤ l.length := by
  have h1 := addL_len (ev := 1) (l := []) (rs := recsOf r i l)
  have h2 := recs_len r i l
  unfold viewL
  simp at h1
  omega
/-- One sample more. -/
theorem view_none {r : Rch} {i : Int} {l : List Smp} {j : Nat} (hj : j < l.length) (h : itemOf r i l[j] = none) : viewL r i (l.take (j + 1)) = viewL r i (l.take j) := by
  unfold viewL
  rw [List.take_succ_eq_append_getElem hj, recs_snoc, h]; simp
theorem view_some {r : Rch} {i : Int} {l : List Smp} {j : Nat} (hj : j < l.length) {x : Rc} (h : itemOf r i l[j] = some x) : viewL r i (l.take (j + 1)) = addR 1 (viewL r i (l.take j)) x := by
  unfold viewL
  rw [List.take_succ_eq_append_getElem hj, recs_snoc, h]
  exact addL_snoc 1 [] _ x
theorem RTab.low {w : World} {g B B' : Nat} {ev : Int} {l : List Rc} {v : Value} (h : RTab w g B ev l v) (hb : B' ≤ B) : RTab w g B' ev l v := ⟨h.box, bk_low h.row hb, h.tab, h.ok⟩
theorem RTab.below {w w' : World} {g B : Nat} {ev : Int} {l : List Rc} {v : Value} (h : RTab w g B ev l v) (hb : Below w.heap.size w w') : RTab w' g B ev l v := ⟨h.box.below hb, bk_below h.row hb, h.tab, h.ok⟩
theorem RTab.new (w : World) (B : Nat) (ev : Int) : RTab (w.alloc (.cells #[.int .i64 ev, .slice none 0 0] 72)) w.heap.size B ev [] (.slice none 0 0) := ⟨Bx.new _ _ _, World.ownsRow_nil _ _ _ _, Tab.nil, by simp⟩
theorem flr_on {t e : Int} (h : 0 ≤ t) (he : 1 ≤ e) : onB (flr t e) e = true := by
  have h1 := (flr_bd h he).1
  unfold onB
  rw [decide_eq_true_iff]
  refine ⟨he, ?_⟩
  rw [tmod_pos h1]
  unfold flr
  have h2 := Int.emod_add_mul_ediv t e
  have h3 : t - t % e = e * (t / e) := by omega
  rw [h3]
  exact Int.mul_emod_right e (t / e)
theorem rv_full {W w' : World} {b0 bs os : Nat} {v0 v1 v2 v3 : Value} {s : Smp} (HB : Bx W b0 33 #[v0, v1, v2, v3]) (HY : SmpCells W bs os s) (hb : Below W.heap.size W w') :
    Below W.heap.size W w' ∧ w'.cell? ⟨b0, 0, none⟩ = some v0 ∧ w'.cell? ⟨b0, 1, none⟩ = some v1 ∧ w'.cell? ⟨b0, 2, none⟩ = some v2 ∧ w'.cell? ⟨b0, 3, none⟩ = some v3 ∧ w'.cell? ⟨bs, os + 1, none⟩ = some (.int .i64 s.tm) := by
  have X := HB.below hb
  exact ⟨hb, X.at_ 0 rfl, X.at_ 1 rfl, X.at_ 2 rfl, X.at_ 3 rfl, (hb.cell (p := ⟨bs, os + 1, none⟩) (World.block_lt_of_cell? _ _ HY.c1)).trans HY.c1⟩
theorem rw_full {W w' : World} {g bs os : Nat} {s : Smp} (HY : SmpCells W bs os s) (hne : bs ≠ g) (gr : W.grownBy w' (some g)) :
    W.grownBy w' (some g) ∧ w'.cell? ⟨bs, os, none⟩ = some (.string s.nm) ∧ w'.cell? ⟨bs, os + 2, none⟩ = some (.int .i64 s.vl) :=
  ⟨gr, gr.cell HY.c0 (fun e => hne (Option.some.inj e)), gr.cell HY.c2 (fun e => hne (Option.some.inj e))⟩
set_option linter.unusedSimpArgs false in
set_option maxRecDepth 100000 in
set_option maxHeartbeats 4000000 in
theorem refView_any (A : Option Addr) (n c : Nat) (B : Option Addr) (m d : Nat) (r : Rch) (i : Int) (C : Option Addr) (k e : Nat) (l : List Smp) (w : World) (h : RchAt w A n B m r) (hn : n ≤ 1000000) (hl : Smps w C k l) (hk : k ≤ 100000) (hev : ∀ t ∈ r.ts, 1 ≤ t.ev) :
    Calls Tryz.prog 15 #[rchV r.now r.nm A n c B m d, .int .i64 i, .slice C k e] w fun x w' => ∃ v, x = .returned v ∧ w'.ownsRow w.heap.size 61 7 v (viewL r i l).length ((viewL r i l).flatMap Rc.cells) ∧ Below w.heap.size w w' := by
  have hb0 : Below w.heap.size w (w.alloc (.cells #[.int .i64 r.now, .string r.nm, .slice A n c, .slice B m d] 33)) := (Below.refl _ w).alloc (Nat.le_refl _) _
  have b0 := Bx.new w 33 #[.int .i64 r.now, .string r.nm, .slice A n c, .slice B m d]
  have q2 := b0.at_ 2 rfl
  cases hi : isB n i
  · have HV := Lib.hid (show viewL r i l = [] from by
      have e : recsOf r i l = [] := by
        unfold recsOf
        rw [List.filterMap_eq_nil_iff]
        intro s _
        unfold itemOf Rch.has
        rw [h.ts.len, hi]; rfl
      unfold viewL; rw [e]; rfl)
    unfold isB at hi
    rw [decide_eq_false_iff_not] at hi
    by_cases h0 : i < 0
    · have hd : decide (i < 0) = true := decide_eq_true h0
      clear hi h hl b0
      go_enter Tryz.func15, Tryz.ntmps15
      go_wp2
      go_ret
      exact ⟨_, rfl, by rw [HV.out]; exact World.ownsRow_nil _ _ _ _, hb0⟩
    · have hd : decide (i < 0) = false := decide_eq_false h0
      have hd2 : decide ((n : Int) ≤ i) = true := decide_eq_true (by omega)
      have hni : (n : Int) ≤ i := by omega
      clear hi h hl b0
      go_enter Tryz.func15, Tryz.ntmps15
      go_wp2
      go_ret
      exact ⟨_, rfl, by rw [HV.out]; exact World.ownsRow_nil _ _ _ _, hb0⟩
  · obtain ⟨q, rfl, hq⟩ := isB_some hi
    have d0 : decide ((q : Int) < 0) = false := decide_eq_false (by omega)
    have d1 : decide ((n : Int) ≤ (q : Int)) = false := decide_eq_false (by omega)
    have g0 : (0 : Int) ≤ (q : Int) := by omega
    have g1 : (q : Int) < (n : Int) := by omega
    have K : q < r.ts.length := by rw [h.ts.len]; exact hq
    have HEV := Lib.hid (hev _ (List.getElem_mem K))
    have HSTA := Lib.hid (show ∀ t, 0 ≤ t → r.start (q : Int) t = flr t (r.ts[q]'K).ev from fun t ht => by
      unfold Rch.start
      rw [h.ts.len, hi, if_pos ⟨rfl, ht⟩, Int.toNat_natCast, List.getElem?_eq_getElem K]
      exact if_neg (by have := HEV.out; simp; omega))
    have hevb := (h.ts.ok _ (List.getElem_mem K)).ev
    obtain ⟨b, off, rfl, hbl, X⟩ := (h.ts.below hb0).get K
    have x1 := X.c1
    have HT := Lib.hid h
    have HL := Lib.hid hl
    have hkl := hl.len
    clear h hl X hi hev
    obtain ⟨ev, hevv⟩ : ∃ ev, ev = (r.ts[q]'K).ev := ⟨_, rfl⟩
    rw [← hevv] at HEV HSTA hevb x1
    have HEB := Lib.hid hevb.2
    clear hevv hevb
    go_enter Tryz.func15, Tryz.ntmps15
    go_wp2_with fail
    have hbW := hb0.alloc hb0.size (.cells #[.int .i64 ev, .slice none 0 0] 72)
    have bW := b0.alloc (.cells #[.int .i64 ev, .slice none 0 0] 72)
    have ZW := RTab.new (w.alloc (.cells #[.int .i64 r.now, .string r.nm, .slice (some ⟨b, off, none⟩) n c, .slice B m d] 33)) w.heap.size ev
    rw [show (w.alloc (.cells #[.int .i64 r.now, .string r.nm, .slice (some ⟨b, off, none⟩) n c, .slice B m d] 33)).heap.size = w.heap.size + 1 from by simp] at ZW
    generalize (w.alloc (.cells #[.int .i64 r.now, .string r.nm, .slice (some ⟨b, off, none⟩) n c, .slice B m d] 33)).alloc (.cells #[.int .i64 ev, .slice none 0 0] 72) = W at *
    clear b0 hb0 q2 hbl x1
    obtain ⟨I, HI⟩ : ∃ I : Act → World → Prop, Hid (I = fun a' wr => ∃ (j : Nat) (v : Value), Fr82 a' [(1, .int .i64 (q : Int)), (2, .slice C k e), (3, .pointer (some ⟨w.heap.size, 0, none⟩)), (7, .pointer (some ⟨w.heap.size + 1, 0, none⟩)), (8, .int .i64 (j : Int))] ∧ j ≤ k ∧ RTab wr (w.heap.size + 1) w.heap.size ev (viewL r (q : Int) (l.take j)) v ∧ Bx wr w.heap.size 33 #[.int .i64 r.now, .string r.nm, .slice (some ⟨b, off, none⟩) n c, .slice B m d] ∧ Below w.heap.size w wr) := ⟨_, Lib.hid rfl⟩
    refine wp_loop I (fun a' _ => k - (intOf (a'.tmps.toList.getD 8 undef)).toNat) ?_ ?_
    · rw [HI.out]; exact ⟨0, _, ⟨rfl, rfl, rfl, rfl, rfl, rfl, rfl, trivial⟩, Nat.zero_le _, ZW, bW, hbW⟩
    · intro a' wr hI
      rw [HI.out] at hI
      clear bW ZW hbW
      obtain ⟨j, v, hfr, hj, Z, bx, hbr⟩ := hI
      obtain ⟨u, rfl⟩ := frv_loop hfr
      clear hfr
      by_cases hlt : j < k
      · have K2 : j < l.length := by rw [hkl]; exact hlt
        obtain ⟨bs, os, rfl, hbs, Y⟩ := (HL.out.below hbr).get K2
        have hbsw : bs < w.heap.size := by
          obtain ⟨bs', os', e', h1, _⟩ := HL.out.get K2
          cases e'; exact h1
        have HVN := Lib.hid (view_none (r := r) (i := (q : Int)) K2)
        have HVS := Lib.hid (fun x => view_some (r := r) (i := (q : Int)) K2 (x := x))
        have hsO := HL.out.ok _ (List.getElem_mem K2)
        generalize l[j]'K2 = s at *
        have g2 : (0 : Int) ≤ (j : Int) := by omega
        have g3 : (j : Int) < (k : Int) := by omega
        have y0 := Y.c0
        have y1 := Y.c1
        have y2 := Y.c2
        have HYY := Lib.hid Y
        have HBB := Lib.hid bx
        clear Y
        by_cases hv : validB s.nm.toList = true
        · have HVB := Lib.hid hv
          by_cases ht : s.tm < 0
          · have HNO := Lib.hid (HVN.out (by unfold itemOf Rch.has; rw [decide_eq_false (by omega)]; simp))
            have hd : decide (s.tm < 0) = true := decide_eq_true ht
            clear hv
            go_wp2_with (go_at_call 31; refine (refName_any s.nm _ hsO.nm).mono ?_; rw [HVB.out]; rintro e wq ⟨rfl, rfl⟩)
            exact ⟨by rw [HI.out]; exact ⟨j + 1, v, ⟨rfl, rfl, rfl, rfl, rfl, rfl, rfl, trivial⟩, by omega, by rw [HNO.out]; exact Z, bx, hbr⟩, show k - (j + 1) < k - j by omega⟩
          · have hd : decide (s.tm < 0) = false := decide_eq_false ht
            go_upto_region 8 with (go_at_call 31; refine (refName_any s.nm _ hsO.nm).mono ?_; rw [HVB.out]; rintro e wq ⟨rfl, rfl⟩)
            have HST := Lib.hid (fun W (hW : RchAt W (some ⟨b, off, none⟩) n B m r) => refStart_any (some ⟨b, off, none⟩) n c B m d r (q : Int) s.tm W hW hn hsO.tm)
            have HTR := Lib.hid (HT.out.below hbr)
            have RD0 := rv_full HBB.out HYY.out ((Below.refl wr.heap.size wr).drew)
            clear y0 y1 y2
            go_region_held3 (fun w' => Below wr.heap.size wr w' ∧ w'.cell? ⟨w.heap.size, 0, none⟩ = some (.int .i64 r.now) ∧ w'.cell? ⟨w.heap.size, 1, none⟩ = some (.string r.nm) ∧ w'.cell? ⟨w.heap.size, 2, none⟩ = some (.slice (some ⟨b, off, none⟩) n c) ∧ w'.cell? ⟨w.heap.size, 3, none⟩ = some (.slice B m d) ∧ w'.cell? ⟨bs, os + j * 3 + 1, none⟩ = some (.int .i64 s.tm))
              (first
                | assumption
                | exact RD0
                | (go_split_ands; exact rv_full HBB.out HYY.out (by assumption))
                | (go_split_ands; exact rv_full HBB.out HYY.out (Below.trans (by assumption) (hbv.mono (Below.size (by assumption))))))
              (first
                | (go_at_call 32; go_split_ands; refine (HST.out _ (HTR.out.below (by assumption))).mono ?_; rintro e wv ⟨rfl, hbv⟩))
            go_split_ands
            have hb8 : Below wr.heap.size wr wv := by assumption
            have Z8 := Z.below hb8
            have bx8 := HBB.out.below hb8
            have hbr8 := hbr.trans (hb8.mono hbr.size)
            have HY8 := Lib.hid (show SmpCells wv bs (os + j * 3) s from ⟨(hb8.cell (p := ⟨bs, os + j * 3, none⟩) (World.block_lt_of_cell? _ _ HYY.out.c0)).trans HYY.out.c0, (hb8.cell (p := ⟨bs, os + j * 3 + 1, none⟩) (World.block_lt_of_cell? _ _ HYY.out.c1)).trans HYY.out.c1, (hb8.cell (p := ⟨bs, os + j * 3 + 2, none⟩) (World.block_lt_of_cell? _ _ HYY.out.c2)).trans HYY.out.c2⟩)
            by_cases hh : r.has (q : Int) s.tm = true
            · have hit : itemOf r (q : Int) s = some ⟨s.nm, r.start (q : Int) s.tm, oneG s.vl⟩ := by unfold itemOf; rw [hh, hv]; rfl
              obtain ⟨hr1, hxV, hxO⟩ := item_right hsO hit
              have hre : rightR ev ⟨s.nm, r.start (q : Int) s.tm, oneG s.vl⟩ = true := by
                unfold rightR at hr1 ⊢
                simp only [Bool.and_eq_true, decide_eq_true_eq] at hr1 ⊢
                refine ⟨⟨hr1.1.1, ?_⟩, hr1.2⟩
                rw [HSTA.out s.tm (by omega)]
                exact flr_on (by omega) HEV.out
              have HVX := Lib.hid (show viewL r (q : Int) (l.take (j + 1)) = addR ev (viewL r (q : Int) (l.take j)) ⟨s.nm, r.start (q : Int) s.tm, oneG s.vl⟩ from by rw [HVS.out _ hit, addR_ev hr1 hre])
              have hvl : (viewL r (q : Int) (l.take j)).length ≤ 100000 := by
                have h1 := Z.row.1
                have h2 := view_len' r (q : Int) (l.take j)
                rw [List.length_take] at h2
                omega
              have hne : bs ≠ w.heap.size + 1 := by omega
              have ZD := Z8.below ((Below.refl wv.heap.size wv).drew)
              have HAD := Lib.hid (fun W (hW : RTab W (w.heap.size + 1) w.heap.size ev (viewL r (q : Int) (l.take j)) v) => refAdd_any (w.heap.size + 1) w.heap.size ev (viewL r (q : Int) (l.take j)) v ⟨s.nm, r.start (q : Int) s.tm, oneG s.vl⟩ W hW hre hxO hxV ⟨HEV.out, HEB.out⟩ hvl)
              have RW0 := rw_full HY8.out hne (bk_grown ((Below.refl wv.heap.size wv).drew) (some (w.heap.size + 1)))
              clear hit hr1 hre
              rw [hh]
              clear hh
              go_upto_region 10 with fail
              go_region_held3 (fun w' => wv.grownBy w' (some (w.heap.size + 1)) ∧ w'.cell? ⟨bs, os + j * 3, none⟩ = some (.string s.nm) ∧ w'.cell? ⟨bs, os + j * 3 + 2, none⟩ = some (.int .i64 s.vl))
                (first
                  | assumption
                  | exact RW0
                  | (go_split_ands; exact rw_full HY8.out hne (by assumption))
                  | (go_split_ands; exact rw_full HY8.out hne (World.grownBy.trans (by assumption) (bk_grown hbo (some (w.heap.size + 1)))))
                  | (go_split_ands; exact rw_full HY8.out hne (World.grownBy.trans (by assumption) hga)))
                (first
                  | (go_at_call 34; refine (refOne_any s.vl _ hsO.vl).mono ?_; rintro e wo ⟨rfl, hbo⟩
                     have ZO := ZD.below hbo)
                  | (go_at_call 33; refine (HAD.out _ ZO).mono ?_; rintro e wa ⟨rfl, hza, hga⟩))
              go_split_ands
              have hgr : wv.grownBy wa (some (w.heap.size + 1)) := by assumption
              obtain ⟨v', hza'⟩ := hza
              have HZA := Lib.hid (hza'.low (show w.heap.size ≤ wo.heap.size from Nat.le_trans hbr8.size (Nat.le_trans (Nat.le_refl _) hbo.size)))
              have bxa := bx8.grown hgr (fun e => by have := Option.some.inj e; omega)
              have hbra := hbr8.grown hgr hbr8.size (fun q hq => by have := Option.some.inj hq; omega)
              clear hza'
              go_wp2_with fail
              exact ⟨by rw [HI.out]; exact ⟨j + 1, v', ⟨rfl, rfl, rfl, rfl, rfl, rfl, rfl, trivial⟩, by omega, by rw [HVX.out]; exact HZA.out, bxa, hbra⟩, show k - (j + 1) < k - j by omega⟩
            · have hh' : r.has (q : Int) s.tm = false := by simpa using hh
              have HNO := Lib.hid (HVN.out (by unfold itemOf; rw [hh']; simp))
              rw [hh']
              clear hh hh'
              go_wp2_with fail
              exact ⟨by rw [HI.out]; exact ⟨j + 1, v, ⟨rfl, rfl, rfl, rfl, rfl, rfl, rfl, trivial⟩, by omega, by rw [HNO.out]; exact Z8, bx8, hbr8⟩, show k - (j + 1) < k - j by omega⟩
        · have hv' : validB s.nm.toList = false := by simpa using hv
          have HVB := Lib.hid hv'
          have HNO := Lib.hid (HVN.out (by unfold itemOf; rw [hv']; simp))
          clear hv hv'
          go_wp2_with (go_at_call 31; refine (refName_any s.nm _ hsO.nm).mono ?_; rw [HVB.out]; rintro e wq ⟨rfl, rfl⟩)
          exact ⟨by rw [HI.out]; exact ⟨j + 1, v, ⟨rfl, rfl, rfl, rfl, rfl, rfl, rfl, trivial⟩, by omega, by rw [HNO.out]; exact Z, bx, hbr⟩, show k - (j + 1) < k - j by omega⟩
      · have hje : j = k := by omega
        have hd : decide ((j : Int) < (k : Int)) = false := decide_eq_false (by omega)
        have hall : l.take j = l := by rw [hje, ← hkl]; exact List.take_length
        rw [hall] at Z
        have z1 := Z.box.at_ 1 (v := v) rfl
        go_wp2
        go_ret
        exact ⟨v, rfl, Z.row, hbr⟩
end Go.Proofs.YtcglbbabfkbcbadGreat
