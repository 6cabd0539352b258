/-
  ViewMore: its walk.
-/
import Derived.Test.YtcmlfepmgiikpaaMoreRows
import Derived.Deep.CutBlock
import Derived.BigQuiet
namespace Go.Proofs.Ytcmlfepmgiikpaa
open Go.ChangeShapes Go.WideShapes Go.ChangeAt Go.RowKit Go.Deep Go.Maps

/-- What stays: two boxes, while calls go on. -/
structure TwoB (w0 w' : World) (b : Nat) (nm : ByteArray) (A : Option Addr) (n c : Nat) (s : Smp) : Prop where
  bx : Bx w' b 24 #[.string nm, .slice A n c]
  bs : Bx w' (b + 1) 28 #[.string s.nm, .int .i64 s.tm, .int .i64 s.vl]
  bel : Below w0.heap.size w0 w'
section
variable {w0 w w' : World} {b : Nat} {nm : ByteArray} {A : Option Addr} {n c : Nat} {s : Smp}
theorem TwoB.below (h : TwoB w0 w b nm A n c s) (hb : Below w.heap.size w w') : TwoB w0 w' b nm A n c s := ⟨h.bx.below hb, h.bs.below hb, h.bel.trans (hb.mono h.bel.size)⟩
theorem TwoB.full (h : TwoB w0 w b nm A n c s) : w.cell? ⟨b, 0, none⟩ = some (.string nm) ∧ w.cell? ⟨b, 1, none⟩ = some (.slice A n c) ∧ w.cell? ⟨b + 1, 0, none⟩ = some (.string s.nm) ∧ w.cell? ⟨b + 1, 1, none⟩ = some (.int .i64 s.tm) ∧ w.cell? ⟨b + 1, 2, none⟩ = some (.int .i64 s.vl) := ⟨h.bx.at_ 0 rfl, h.bx.at_ 1 rfl, h.bs.at_ 0 rfl, h.bs.at_ 1 rfl, h.bs.at_ 2 rfl⟩
end

set_option maxRecDepth 100000 in
set_option maxHeartbeats 16000000 in
theorem walk_viewMore {w : World} {v0 : Value} (x : ByteArray × Option Addr × Nat × Nat × List Ti) (hx : PolArg w v0 x) (now : Int) (hnow : (Lit.int .i64 now).wf = true) {v2 : Value} (y : Option Addr × Nat × Nat × List Smp) (hy : SmpsArg w v2 y) {v4 : Value} (s : Smp) (hs : SmpArg v4 s) :
    Calls Try.prog 5 #[v0, .int .i64 now, v2, v4] w fun e w' => e = .returned (.bool true) ∧ Below w.heap.size w w' := by
  obtain ⟨nm, A, n, c, ts⟩ := x
  obtain ⟨hval, hnm, hts⟩ := hx
  simp only at hval hnm hts
  subst hval
  obtain ⟨C, k, ec, l⟩ := y
  obtain ⟨hval, hl⟩ := hy
  simp only at hval hl
  subst hval
  obtain ⟨hval, hsok⟩ := hs
  subst hval
  have hnb := bd_i64' hnow
  have hb0 : Below w.heap.size w ((w.alloc (.cells #[.string nm, .slice A n c] 24)).alloc (.cells #[.string s.nm, .int .i64 s.tm, .int .i64 s.vl] 28)) := ((Below.refl _ w).alloc (Nat.le_refl _) _).alloc (by simp) _
  have B0 := (Bx.new w 24 #[.string nm, .slice A n c]).alloc (.cells #[.string s.nm, .int .i64 s.tm, .int .i64 s.vl] 28)
  have B1 := Bx.new (w.alloc (.cells #[.string nm, .slice A n c] 24)) 28 #[.string s.nm, .int .i64 s.tm, .int .i64 s.vl]
  rw [show (w.alloc (.cells #[.string nm, .slice A n c] 24)).heap.size = w.heap.size + 1 from by simp] at B1
  have T0 : TwoB w _ w.heap.size nm A n c s := ⟨B0, B1, hb0⟩
  have HTS := Lib.hid hts
  have HL := Lib.hid hl
  have HSO := Lib.hid hsok
  have hsz := hsok.nm
  unfold maxLen at hsz
  obtain ⟨ce, hce⟩ : ∃ ce, (checkR nm.toList ts).1 = ce := ⟨_, rfl⟩
  have HCK := Lib.hid (refCheck_any nm A n c ts _ hnm (hts.below hb0))
  rw [hce] at HCK
  clear hce hts hl hnow hb0 B0 B1 hsok
  obtain ⟨p0, p1, _, _, _⟩ := T0.full
  go_enter Try.func5, Try.ntmps5
  go_wp2_with fail
  refine HCK.out.mono ?_
  rintro e w1 ⟨rfl, hb1⟩
  have T1 := T0.below hb1
  clear p0 p1 hb1 T0 HCK
  obtain ⟨p0, p1, p2, p3, p4⟩ := T1.full
  go_wp2_with fail
  refine (small_any nm A n c ts w1 hnm (HTS.out.below T1.bel)).mono ?_
  rintro e w2 ⟨b, rfl, hsm, hb2⟩
  have T2 := T1.below hb2
  have hbw := T2.bel
  clear hb2 T1 p0 p1 p2 p3 p4
  cases b
  · clear hsm
    go_wp2_with fail
    refine (alive_any _).mono ?_
    rintro e w9 ⟨rfl, hb9⟩
    go_wp2_with fail
    go_ret
    exact ⟨rfl, hbw.trans (hb9.mono hbw.size)⟩
  · obtain ⟨hn10, _⟩ := hsm rfl
    go_wp2_with fail
    refine (some_any 30 C k ec l w2 (HL.out.below hbw) (by omega)).mono ?_
    rintro e w3 ⟨b, rfl, hso, rfl⟩
    cases b
    · clear hso
      go_wp2_with fail
      refine (alive_any _).mono ?_
      rintro e w9 ⟨rfl, hb9⟩
      go_wp2_with fail
      go_ret
      exact ⟨rfl, hbw.trans (hb9.mono hbw.size)⟩
    · have hk40 := hso rfl
      have HK40 : k ≤ 30 := by omega
      clear hso hk40
      obtain ⟨p0, p1, p2, p3, p4⟩ := T2.full
      by_cases hg1 : 60 < (s.nm.size : Int)
      · clear T2
        go_wp2_with fail
        refine (alive_any _).mono ?_
        rintro e w9 ⟨rfl, hb9⟩
        go_wp2_with fail
        go_ret
        exact ⟨rfl, hbw.trans (hb9.mono hbw.size)⟩
      have hd1 : decide (60 < (s.nm.size : Int)) = false := decide_eq_false hg1
      by_cases hg4 : ce = 0
      rotate_left
      · have hne : (ce == 0) = false := beq_eq_false_iff_ne.2 hg4
        clear T2 hg4
        go_wp2_with fail
        refine (alive_any _).mono ?_
        rintro e w9 ⟨rfl, hb9⟩
        go_wp2_with fail
        go_ret
        exact ⟨rfl, hbw.trans (hb9.mono hbw.size)⟩
      subst hg4
      obtain ⟨i0, hi, hz0, hz1, hz2⟩ := info_parts info_smp
      have HI := Lib.hid hi
      have HI0 := Lib.hid hz0
      have HI1 := Lib.hid hz1
      have HI2 := Lib.hid hz2
      clear hi hz0 hz1 hz2
      have hfl := Lib.hid (smps_cells HL.out)
      have hlen := Lib.hid HL.out.len
      have hfl2 : (l.flatMap Smp.cells).length = k * 3 := hfl.out
      have hone : ∀ u ∈ Smp.cells s, u.oneCell' = true := by
        intro u hu
        simp [Smp.cells] at hu
        rcases hu with rfl | rfl | rfl <;> rfl
      have HONE := Lib.hid hone
      clear hone
      have HLS := Lib.hid (show ∀ r ∈ l ++ [s], r.Ok from fun r hr => by
        rcases List.mem_append.1 hr with hr | hr
        · exact HL.out.ok r hr
        · rw [List.mem_singleton.1 hr]; exact HSO.out)
      go_wp2_with fail
      refine (reachOf_any now nm A n c ts none 0 0 [] w2 (HTS.out.below T2.bel) ⟨Sl.nil _ _, rfl, by decide, by simp⟩ (by omega) (by omega) hnb).mono ?_
      rintro e w4 ⟨A', c', B', d', rfl, hR, _, _, hb4⟩
      have T4 := T2.below hb4
      clear T2 hb4 p0 p1 p2 p3 p4 hbw
      have HLT := Lib.hid (show w.heap.size + 1 < (w4.alloc (.cells #[.int .i64 now, .string nm, .slice A' n c', .slice B' 0 d'] 36)).heap.size ∧ w4.heap.size < (w4.alloc (.cells #[.int .i64 now, .string nm, .slice A' n c', .slice B' 0 d'] 36)).heap.size from by have := T4.bs.lt; simp; omega)
      have S5 : MoS (w4.alloc (.cells #[.int .i64 now, .string nm, .slice A' n c', .slice B' 0 d'] 36)) _ w.heap.size w4.heap.size now nm A c A' n c' B' d' s := ⟨T4.bx.alloc _, T4.bs.alloc _, Bx.new w4 36 #[.int .i64 now, .string nm, .slice A' n c', .slice B' 0 d'], Below.refl _ _, HLT.out⟩
      have hba5 := (Below.refl w4.heap.size w4).alloc (Nat.le_refl _) (.cells #[.int .i64 now, .string nm, .slice A' n c', .slice B' 0 d'] 36)
      have HB5 := Lib.hid (T4.bel.trans (hba5.mono T4.bel.size))
      have HR5 := Lib.hid (hR.below hba5)
      have HL5 := Lib.hid (HL.out.below HB5.out)
      clear hR T4 hba5 HLT
      go_upto_region 5 with fail
      generalize w4.alloc (.cells #[.int .i64 now, .string nm, .slice A' n c', .slice B' 0 d'] 36) = w5 at *
      obtain ⟨b0, hb0⟩ : ∃ b0, b0 = w.heap.size := ⟨_, rfl⟩
      rw [← hb0] at S5
      rw [← hb0]
      clear hb0
      generalize w4.heap.size = g5 at *
      have S5D := S5.drew
      go_cut [12, 13] (fun s12 s13 wx => MoS w5 wx b0 g5 now nm A c A' n c' B' d' s ∧ ∃ Ax cx Bx vsx Ay cy By vsy, s12 = .slice Ax n cx ∧ s13 = .slice Ay n cy ∧ Hid (VRows wx Bx (.slice Ax n cx) vsx (viewAll ⟨now, nm, ts, []⟩ l n)) ∧ Hid (VRows wx By (.slice Ay n cy) vsy (viewAll ⟨now, nm, ts, []⟩ (l ++ [s]) n)))
      case first => as_aux_lemma =>
        go_region_held3 (fun w' => MoS w5 w' b0 g5 now nm A c A' n c' B' d' s ∧ w'.cell? ⟨g5, 0, none⟩ = some (.int .i64 now) ∧ w'.cell? ⟨g5, 1, none⟩ = some (.string nm) ∧ w'.cell? ⟨g5, 2, none⟩ = some (.slice A' n c') ∧ w'.cell? ⟨g5, 3, none⟩ = some (.slice B' 0 d') ∧ w'.cell? ⟨b0 + 1, 0, none⟩ = some (.string s.nm) ∧ w'.cell? ⟨b0 + 1, 1, none⟩ = some (.int .i64 s.tm) ∧ w'.cell? ⟨b0 + 1, 2, none⟩ = some (.int .i64 s.vl) ∧ w'.cell? ⟨b0, 0, none⟩ = some (.string nm) ∧ w'.cell? ⟨b0, 1, none⟩ = some (.slice A n c))
          (first
            | assumption
            | exact S5D.full
            | (go_split_ands; exact MoS.full (by assumption))
            | (go_split_ands; exact MoS.full (MoS.alloc (by assumption) _))
            | (go_split_ands; exact MoS.full (MoS.below (by assumption) hba))
            | (go_split_ands; exact MoS.full (MoS.below (by assumption) hbx))
            | (go_split_ands; exact MoS.full (MoS.grown (by assumption) hgb HOB.out))
            | (go_split_ands; exact MoS.full (MoS.below (by assumption) hbz)))
          (first
            | (go_split_ands
               refine step_append_sl _ rfl _ _ 25 rfl wx.heap.size 28 i0 _ 3 32 Try.underlying25 HI.out HI0.out HI1.out HI2.out rfl (by decide) (.slice none 0 0) 0 [] rfl (World.ownsRow_nil _ _ _ _) C k ec (l.flatMap Smp.cells) rfl hfl.out (HL5.out.below (MoS.bel (by assumption))).sl (smps_one l) (by unfold maxLen; omega) (by omega) (by first | exact Nat.le_refl _ | simp) ?_
               intro va wa howna hga _
               obtain ⟨Aa, ca, ea, hsa⟩ := own_sl howna
               rw [Nat.zero_add, List.nil_append] at howna
               rw [Nat.zero_add] at ea
               subst ea
               have hba := (Below.refl _ _).grown hga (Nat.le_refl _) (fun k hk => by cases hk)
               have HWA := Lib.hid howna
               have HOBX := Lib.hid (fun q hq => (HWA.out.lt q hq).1)
               have HOB := Lib.hid (fun q hq => Nat.le_trans hsz (HOBX.out q hq))
               have HXA := Lib.hid (show Below wx.heap.size wx wa from by first | exact hba | exact ((Below.refl _ _).alloc (Nat.le_refl _) _).trans (hba.mono (by simp)))
               clear howna hsa)
            | (go_split_ands
               refine step_append_sl _ rfl _ _ 25 rfl wx.heap.size 28 i0 _ 3 32 Try.underlying25 HI.out HI0.out HI1.out HI2.out rfl (by decide) (.slice Aa k ca) k (l.flatMap Smp.cells) rfl (own_below' HWA.out ((Below.refl _ _).alloc (Nat.le_refl _) _)) (some ⟨wa.heap.size, 0, none⟩) 1 1 (Smp.cells s) rfl rfl (Sl.new wa 28 wa.heap.size (Smp.cells s) #[.string s.nm, .int .i64 s.tm, .int .i64 s.vl] rfl rfl) HONE.out (by unfold maxLen; omega) (by omega) (by have := HXA.out.size; simp; try omega) ?_
               intro vb wb hownb hgb _
               have HXB := Lib.hid (show Below wx.heap.size wx wb from by first | exact HXA.out.grown hgb HXA.out.size HOBX.out | exact (HXA.out.alloc HXA.out.size _).grown hgb (by have := HXA.out.size; simp; omega) HOBX.out)
               obtain ⟨Ab, cb, eb, hsb⟩ := own_sl hownb
               subst eb)
            | (go_split_ands
               refine step_append_sl _ rfl _ _ 25 rfl wx.heap.size 28 i0 _ 3 32 Try.underlying25 HI.out HI0.out HI1.out HI2.out rfl (by decide) (.slice Aa k ca) k (l.flatMap Smp.cells) rfl (HWA.out) (some ⟨wx.heap.size, 0, none⟩) 1 1 (Smp.cells s) rfl rfl ((Sl.new wx 28 wx.heap.size (Smp.cells s) #[.string s.nm, .int .i64 s.tm, .int .i64 s.vl] rfl rfl).below hba) HONE.out (by unfold maxLen; omega) (by omega) (by have := HXA.out.size; simp; try omega) ?_
               intro vb wb hownb hgb _
               have HXB := Lib.hid (show Below wx.heap.size wx wb from by first | exact HXA.out.grown hgb HXA.out.size HOBX.out | exact (HXA.out.alloc HXA.out.size _).grown hgb (by have := HXA.out.size; simp; omega) HOBX.out)
               obtain ⟨Ab, cb, eb, hsb⟩ := own_sl hownb
               subst eb)
            | (go_split_ands
               refine step_append_sl _ rfl _ _ 25 rfl wx.heap.size 28 i0 _ 3 32 Try.underlying25 HI.out HI0.out HI1.out HI2.out rfl (by decide) (.slice Aa k ca) k (l.flatMap Smp.cells) rfl (HWA.out) (some ⟨w5.heap.size, 0, none⟩) 1 1 (Smp.cells s) rfl rfl (((Sl.new w5.drew 28 w5.heap.size (Smp.cells s) #[.string s.nm, .int .i64 s.tm, .int .i64 s.vl] rfl rfl).below hbx).below hba) HONE.out (by unfold maxLen; omega) (by omega) (by have := HXA.out.size; simp; try omega) ?_
               intro vb wb hownb hgb _
               have HXB := Lib.hid (show Below wx.heap.size wx wb from by first | exact HXA.out.grown hgb HXA.out.size HOBX.out | exact (HXA.out.alloc HXA.out.size _).grown hgb (by have := HXA.out.size; simp; omega) HOBX.out)
               obtain ⟨Ab, cb, eb, hsb⟩ := own_sl hownb
               subst eb)
            | (go_at_call 11; go_split_ands; (with_reducible refine (all_any A' n c' B' 0 d' ⟨now, nm, ts, []⟩ C k ec l _ (HR5.out.below (MoS.bel (by assumption))) (by omega) (HL5.out.below (MoS.bel (by assumption))) (by omega)).mono ?_)
               rintro e wx ⟨vx, vsx, rfl, hvx, hbx⟩
               obtain ⟨Ax, cx, rfl⟩ := hvx.slice
               have HVX := Lib.hid hvx
               have hsz : w5.heap.size ≤ wx.heap.size := Nat.le_trans (by simp) hbx.size)
            | (go_at_call 11; go_split_ands
               refine (all_any A' n c' B' 0 d' ⟨now, nm, ts, []⟩ Ab (k + 1) cb (l ++ [s]) _ (HR5.out.below (MoS.bel (by assumption))) (by omega) ⟨by simpa using hsb, by simp [hlen.out], by unfold maxLen; omega, HLS.out⟩ (by omega)).mono ?_
               rintro e wz ⟨vz, vsz, rfl, hvz, hbz⟩
               obtain ⟨Az, cz, rfl⟩ := hvz.slice))
        all_goals
          go_split_ands
          have S8 : MoS w5 wz b0 g5 now nm A c A' n c' B' d' s := by assumption
          have hxz := HXB.out.trans (hbz.mono HXB.out.size)
          have hvx := HVX.out.below hxz
          rw [viewAll_len] at hvz
          rw [viewAll_len] at hvx
          go_wp2_with fail
          go_meet
          exact ⟨S8, Ax, cx, _, vsx, Az, cz, _, vsz, by rw [viewAll_len], by rw [viewAll_len], Lib.hid hvx, Lib.hid hvz⟩
      case rest => as_aux_lemma =>
        obtain ⟨S6, Ax, cx, Bx, vsx, Ay, cy, By, vsy, rfl, rfl, HVX, HVY⟩ := hcut
        have HB6 := Lib.hid (HB5.out.trans (S6.bel.mono HB5.out.size))
        have HR6 := Lib.hid (HR5.out.below S6.bel)
        have HL6 := Lib.hid (HL5.out.below S6.bel)
        have S7 := S6.anew
        clear S6 HR5 HL5 HB5 S5 S5D
        have S7D := S7.drew
        go_upto_region 6 with fail
        obtain ⟨w6, hw6⟩ : ∃ x, x = wc := ⟨_, rfl⟩
        subst hw6
        go_cut [14, 15] (fun s14 s15 wx => MoS w6 wx b0 g5 now nm A c A' n c' B' d' s ∧ ∃ An cn Am cm, s14 = .slice An n cn ∧ s15 = .slice Am n cm ∧ Hid (VInts wx (.slice An n cn) n (countL ⟨now, nm, ts, []⟩ l n)) ∧ Hid (VInts wx (.slice Am n cm) n (countL ⟨now, nm, ts, []⟩ (l ++ [s]) n)))
        case first => as_aux_lemma =>
          go_region_held3 (fun w' => MoS w6 w' b0 g5 now nm A c A' n c' B' d' s ∧ w'.cell? ⟨g5, 0, none⟩ = some (.int .i64 now) ∧ w'.cell? ⟨g5, 1, none⟩ = some (.string nm) ∧ w'.cell? ⟨g5, 2, none⟩ = some (.slice A' n c') ∧ w'.cell? ⟨g5, 3, none⟩ = some (.slice B' 0 d') ∧ w'.cell? ⟨b0 + 1, 0, none⟩ = some (.string s.nm) ∧ w'.cell? ⟨b0 + 1, 1, none⟩ = some (.int .i64 s.tm) ∧ w'.cell? ⟨b0 + 1, 2, none⟩ = some (.int .i64 s.vl) ∧ w'.cell? ⟨b0, 0, none⟩ = some (.string nm) ∧ w'.cell? ⟨b0, 1, none⟩ = some (.slice A n c))
            (first
              | assumption
              | exact S7D.full
              | (go_split_ands; exact MoS.full (by assumption))
              | (go_split_ands; exact MoS.full (MoS.alloc (by assumption) _))
              | (go_split_ands; exact MoS.full (MoS.below (by assumption) hba))
              | (go_split_ands; exact MoS.full (MoS.below (by assumption) hbx))
              | (go_split_ands; exact MoS.full (MoS.grown (by assumption) hgb HOB.out))
              | (go_split_ands; exact MoS.full (MoS.below (by assumption) hbz)))
            (first
              | (go_split_ands
                 refine step_append_sl _ rfl _ _ 25 rfl wx.heap.size 28 i0 _ 3 32 Try.underlying25 HI.out HI0.out HI1.out HI2.out rfl (by decide) (.slice none 0 0) 0 [] rfl (World.ownsRow_nil _ _ _ _) C k ec (l.flatMap Smp.cells) rfl hfl.out (HL6.out.below (MoS.bel (by assumption))).sl (smps_one l) (by unfold maxLen; omega) (by omega) (by first | exact Nat.le_refl _ | simp) ?_
                 intro va wa howna hga _
                 obtain ⟨Aa, ca, ea, hsa⟩ := own_sl howna
                 rw [Nat.zero_add, List.nil_append] at howna
                 rw [Nat.zero_add] at ea
                 subst ea
                 have hba := (Below.refl _ _).grown hga (Nat.le_refl _) (fun k hk => by cases hk)
                 have HWA := Lib.hid howna
                 have HOBX := Lib.hid (fun q hq => (HWA.out.lt q hq).1)
                 have HOB := Lib.hid (fun q hq => Nat.le_trans hsz (HOBX.out q hq))
                 have HXA := Lib.hid (show Below wx.heap.size wx wa from by first | exact hba | exact ((Below.refl _ _).alloc (Nat.le_refl _) _).trans (hba.mono (by simp)))
                 clear howna hsa)
              | (go_split_ands
                 refine step_append_sl _ rfl _ _ 25 rfl wx.heap.size 28 i0 _ 3 32 Try.underlying25 HI.out HI0.out HI1.out HI2.out rfl (by decide) (.slice Aa k ca) k (l.flatMap Smp.cells) rfl (own_below' HWA.out ((Below.refl _ _).alloc (Nat.le_refl _) _)) (some ⟨wa.heap.size, 0, none⟩) 1 1 (Smp.cells s) rfl rfl (Sl.new wa 28 wa.heap.size (Smp.cells s) #[.string s.nm, .int .i64 s.tm, .int .i64 s.vl] rfl rfl) HONE.out (by unfold maxLen; omega) (by omega) (by have := HXA.out.size; simp; try omega) ?_
                 intro vb wb hownb hgb _
                 have HXB := Lib.hid (show Below wx.heap.size wx wb from by first | exact HXA.out.grown hgb HXA.out.size HOBX.out | exact (HXA.out.alloc HXA.out.size _).grown hgb (by have := HXA.out.size; simp; omega) HOBX.out)
                 obtain ⟨Ab, cb, eb, hsb⟩ := own_sl hownb
                 subst eb)
              | (go_split_ands
                 refine step_append_sl _ rfl _ _ 25 rfl wx.heap.size 28 i0 _ 3 32 Try.underlying25 HI.out HI0.out HI1.out HI2.out rfl (by decide) (.slice Aa k ca) k (l.flatMap Smp.cells) rfl (HWA.out) (some ⟨wx.heap.size, 0, none⟩) 1 1 (Smp.cells s) rfl rfl ((Sl.new wx 28 wx.heap.size (Smp.cells s) #[.string s.nm, .int .i64 s.tm, .int .i64 s.vl] rfl rfl).below hba) HONE.out (by unfold maxLen; omega) (by omega) (by have := HXA.out.size; simp; try omega) ?_
                 intro vb wb hownb hgb _
                 have HXB := Lib.hid (show Below wx.heap.size wx wb from by first | exact HXA.out.grown hgb HXA.out.size HOBX.out | exact (HXA.out.alloc HXA.out.size _).grown hgb (by have := HXA.out.size; simp; omega) HOBX.out)
                 obtain ⟨Ab, cb, eb, hsb⟩ := own_sl hownb
                 subst eb)
              | (go_split_ands
                 refine step_append_sl _ rfl _ _ 25 rfl wx.heap.size 28 i0 _ 3 32 Try.underlying25 HI.out HI0.out HI1.out HI2.out rfl (by decide) (.slice Aa k ca) k (l.flatMap Smp.cells) rfl (HWA.out) (some ⟨w6.heap.size, 0, none⟩) 1 1 (Smp.cells s) rfl rfl (((Sl.new w6.drew 28 w6.heap.size (Smp.cells s) #[.string s.nm, .int .i64 s.tm, .int .i64 s.vl] rfl rfl).below hbx).below hba) HONE.out (by unfold maxLen; omega) (by omega) (by have := HXA.out.size; simp; try omega) ?_
                 intro vb wb hownb hgb _
                 have HXB := Lib.hid (show Below wx.heap.size wx wb from by first | exact HXA.out.grown hgb HXA.out.size HOBX.out | exact (HXA.out.alloc HXA.out.size _).grown hgb (by have := HXA.out.size; simp; omega) HOBX.out)
                 obtain ⟨Ab, cb, eb, hsb⟩ := own_sl hownb
                 subst eb)
              | (go_at_call 15; go_split_ands; (with_reducible refine (count_any A' n c' B' 0 d' ⟨now, nm, ts, []⟩ C k ec l _ (HR6.out.below (MoS.bel (by assumption))) (by omega) (HL6.out.below (MoS.bel (by assumption))) (by omega)).mono ?_)
                 rintro e wx ⟨vx, rfl, hvx, hbx⟩
                 have HNX := Lib.hid (⟨_, hvx⟩ : VInts wx vx n (countL ⟨now, nm, ts, []⟩ l n))
                 obtain ⟨An, cn, rfl⟩ := HNX.out.slice
                 have hsz : w6.heap.size ≤ wx.heap.size := Nat.le_trans (by simp) hbx.size)
              | (go_at_call 15; go_split_ands
                 refine (count_any A' n c' B' 0 d' ⟨now, nm, ts, []⟩ Ab (k + 1) cb (l ++ [s]) _ (HR6.out.below (MoS.bel (by assumption))) (by omega) ⟨by simpa using hsb, by simp [hlen.out], by unfold maxLen; omega, HLS.out⟩ (by omega)).mono ?_
                 rintro e wz ⟨vz, rfl, hvz, hbz⟩
                 have HNZ := Lib.hid (⟨_, hvz⟩ : VInts wz vz n (countL ⟨now, nm, ts, []⟩ (l ++ [s]) n))
                 obtain ⟨Am, cm, rfl⟩ := HNZ.out.slice))
          all_goals
            go_split_ands
            have S8 : MoS w6 wz b0 g5 now nm A c A' n c' B' d' s := by assumption
            have hxz := HXB.out.trans (hbz.mono HXB.out.size)
            have hvx2 := HNX.out.below hxz
            go_wp2_with fail
            go_meet
            exact ⟨S8, An, cn, Am, cm, rfl, rfl, Lib.hid hvx2, HNZ⟩
        case rest => as_aux_lemma =>
          obtain ⟨S8, An, cn, Am, cm, rfl, rfl, HNX, HNY⟩ := hcut
          have HX := Lib.hid (HVX.out.below S8.bel)
          have HY := Lib.hid (HVY.out.below S8.bel)
          have HB8 := Lib.hid (HB6.out.trans (S8.bel.mono HB6.out.size))
          have HR8 := Lib.hid (HR6.out.below S8.bel)
          have S9 := S8.anew
          have hz60 := HSO.out.tm
          clear S8 HVX HVY HB6 HR6 HL6 S7 S7D
          obtain ⟨wz0, hwz0⟩ : ∃ x, x = wc := ⟨_, rfl⟩
          subst hwz0
          obtain ⟨p0, p1, p2, p3, p4, p5, p6, p7, p8⟩ := S9.full.2
          go_wp2_with fail
          go_loopw [16] (fun i wr => ∃ j : Nat, j ≤ n ∧ i = .int .i64 j ∧ MoS wz0 wr b0 g5 now nm A c A' n c' B' d' s) (fun i _ => n - (intOf i).toNat)
          case atStart => exact ⟨0, Nat.zero_le _, rfl, S9⟩
          case round =>
            clear S9 p0 p1 p2 p3 p4 p5 p6 p7 p8
            obtain ⟨j, hj, rfl, S⟩ := hrel
            by_cases hlt : j < n
            · obtain ⟨gx, ox, _, Xx, kx, ex, _, px, RX⟩ := view_at (HX.out.below S.bel) hlt HL.out.ok (by rw [hlen.out]; omega)
              cases ex
              obtain ⟨gy, oy, _, Xy, ky, ey, _, py, RY⟩ := view_at (HY.out.below S.bel) hlt HLS.out (by rw [List.length_append, hlen.out]; simp; omega)
              cases ey
              obtain ⟨gn, on, _, en, _, pn⟩ := count_at (HNX.out.below S.bel) hlt
              cases en
              obtain ⟨gm, om, _, em, _, pm⟩ := count_at (HNY.out.below S.bel) hlt
              cases em
              rw [count_more] at pm
              have hrl := recs_len ⟨now, nm, ts, []⟩ (j : Int) l
              rw [hlen.out] at hrl
              have HTX := Lib.hid (view_tab ⟨now, nm, ts, []⟩ (j : Int) l HL.out.ok)
              have HTY := Lib.hid (view_tab ⟨now, nm, ts, []⟩ (j : Int) (l ++ [s]) HLS.out)
              have HSUB := Lib.hid (@view_sub ⟨now, nm, ts, []⟩ (j : Int) l s)
              have HOLD := Lib.hid (fun y hy ho => @view_old ⟨now, nm, ts, []⟩ (j : Int) l s y hy ho)
              have HOUT := Lib.hid (fun y hy ho => @view_out ⟨now, nm, ts, []⟩ (j : Int) l s y hy ho)
              have hle1 := view_len ⟨now, nm, ts, []⟩ (j : Int) l
              have hle2 := view_len ⟨now, nm, ts, []⟩ (j : Int) (l ++ [s])
              rw [List.length_append] at hle2
              have hll := hlen.out
              have hle3 : (viewL ⟨now, nm, ts, []⟩ (j : Int) (l ++ [s])).length ≤ 31 := by simp at hle2; omega
              have hle4 : (viewL ⟨now, nm, ts, []⟩ (j : Int) l).length ≤ 30 := by omega
              obtain ⟨p0, p1, p2, p3, p4, p5, p6, p7, p8⟩ := S.full.2
              have g0 : (0 : Int) ≤ (j : Int) := by omega
              have gj : (j : Int) < (n : Int) := by omega
              clear hle1 hle2 hll
              go_wp2_with fail
              refine (start_any A' n c' B' 0 d' ⟨now, nm, ts, []⟩ (j : Int) s.tm wr (HR8.out.below S.bel) (by omega) hz60).mono ?_
              rintro e w10 ⟨rfl, hb10⟩
              have px := (hb10.cell (World.block_lt_of_cell? _ _ px)).trans px
              have py := (hb10.cell (World.block_lt_of_cell? _ _ py)).trans py
              have pn := (hb10.cell (World.block_lt_of_cell? _ _ pn)).trans pn
              have pm := (hb10.cell (World.block_lt_of_cell? _ _ pm)).trans pm
              have HRX := Lib.hid (RX.below hb10)
              have HRY := Lib.hid (RY.below hb10)
              have S2 := S.below hb10
              clear p0 p1 p2 p3 p4 p5 p6 p7 p8 RX RY S hb10
              obtain ⟨p0, p1, p2, p3, p4, p5, p6, p7, p8⟩ := S2.full.2
              obtain ⟨ok, hok⟩ : ∃ ok, okR ⟨now, nm, ts, []⟩ (j : Int) s = ok := ⟨_, rfl⟩
              have hown : ∀ y : Rc, ownR ⟨now, nm, ts, []⟩ (j : Int) s y = (ok && decide (y.nm = s.nm ∧ y.st = Rch.start ⟨now, nm, ts, []⟩ (j : Int) s.tm)) := fun y => by unfold ownR; rw [hok]
              have HOWN := Lib.hid hown
              have HOK := Lib.hid hok
              rw [hok] at pm
              clear hok hown
              go_upto_region 13 with fail
              go_cut [18] (fun s18 wx => s18 = .bool ok ∧ Below w10.heap.size w10 wx)
              case first => as_aux_lemma =>
                have HOKD := Lib.hid (show (Rch.has ⟨now, nm, ts, []⟩ (j : Int) s.tm && validB s.nm.toList) = ok from HOK.out)
                clear HOK HOWN HOLD HOUT HSUB HTX HTY px py pn pm
                generalize Rch.has ⟨now, nm, ts, []⟩ (j : Int) s.tm = has at *
                cases has
                · go_wp2_with fail
                  go_meet
                  exact ⟨by rw [← HOKD.out]; rfl, Below.refl _ _⟩
                · go_wp2_with fail
                  refine (takes_any A' n c' B' 0 d' ⟨now, nm, ts, []⟩ s.nm w10 (HR8.out.below S2.bel) (by omega) HSO.out.nm).mono ?_
                  rintro e w11 ⟨z, rfl, hz, hb11⟩
                  have HZ1 := Lib.hid (show (!(z == 1)) = ok from by rw [hz, ← HOKD.out]; simp)
                  clear hz
                  go_wp2_with fail
                  go_meet
                  refine ⟨?_, hb11⟩
                  rw [← HZ1.out]
                  try rfl
              case rest => as_aux_lemma =>
                obtain ⟨rfl, hb11⟩ := hcut
                have px := (hb11.cell (World.block_lt_of_cell? _ _ px)).trans px
                have py := (hb11.cell (World.block_lt_of_cell? _ _ py)).trans py
                have pn := (hb11.cell (World.block_lt_of_cell? _ _ pn)).trans pn
                have pm := (hb11.cell (World.block_lt_of_cell? _ _ pm)).trans pm
                have HRX := Lib.hid (HRX.out.below hb11)
                have HRY := Lib.hid (HRY.out.below hb11)
                have S3 := S2.below hb11
                clear p0 p1 p2 p3 p4 p5 p6 p7 p8 S2 hb11
                obtain ⟨w11, hw11⟩ : ∃ x, x = wc := ⟨_, rfl⟩
                subst hw11
                obtain ⟨p0, p1, p2, p3, p4, p5, p6, p7, p8⟩ := S3.full.2
                simp only [HOWN.out] at HOLD HOUT
                generalize viewL ⟨now, nm, ts, []⟩ (j : Int) l = L at *
                generalize viewL ⟨now, nm, ts, []⟩ (j : Int) (l ++ [s]) = M at *
                generalize Rch.start ⟨now, nm, ts, []⟩ (j : Int) s.tm = at_ at *
                generalize (recsOf ⟨now, nm, ts, []⟩ (j : Int) l).length = a at *
                clear HOWN HOK
                obtain ⟨cc, hcc⟩ : ∃ cc : Nat, (if ok = true then 1 else 0) = cc := ⟨_, rfl⟩
                rw [hcc, Int.natCast_add] at pm
                have hcc1 : cc ≤ 1 := by rw [← hcc]; split <;> omega
                have HCC := Lib.hid hcc
                clear hcc
                go_upto_if 120 with fail
                go_cut [19] (fun s19 wx => s19 = .int .i64 (cc : Int) ∧ wx = w11)
                case first => as_aux_lemma =>
                  cases ok
                  · have h0 : cc = 0 := HCC.out.symm
                    subst h0
                    go_wp2_with fail
                    go_meet
                    exact ⟨rfl, rfl⟩
                  · have h0 : cc = 1 := HCC.out.symm
                    subst h0
                    go_wp2_with fail
                    go_meet
                    exact ⟨rfl, rfl⟩
                case rest => as_aux_lemma =>
                  obtain ⟨rfl, hwc⟩ := hcut
                  subst hwc
                  have e0 : IntKind.i64.wrap ((a : Int) + (cc : Int)) = (a : Int) + (cc : Int) := IntWalk.i64_in _ (by omega)
                  go_upto_region 17 with fail
                  go_quiet (fail)
                  have hdn := below_drewN (Below.refl wc.heap.size wc) nq
                  have px := (hdn.cell (World.block_lt_of_cell? _ _ px)).trans px
                  have py := (hdn.cell (World.block_lt_of_cell? _ _ py)).trans py
                  have HRX := Lib.hid (HRX.out.below hdn)
                  have HRY := Lib.hid (HRY.out.below hdn)
                  have S4 := S3.below hdn
                  clear p0 p1 p2 p3 p4 p5 p6 p7 p8 S3 hdn pn pm e0
                  generalize wc.drewN nq = wd at *
                  obtain ⟨_, _, _, _, p4, _, _, _, _⟩ := S4.full.2
                  go_wp2_with fail
                  go_loopw [20, 21] (fun i k wr => ∃ q : Nat, q ≤ M.length ∧ i = .int .i64 (idx L M q : Nat) ∧ k = .int .i64 q ∧ Below wd.heap.size wd wr) (fun _ k _ => M.length - (intOf k).toNat)
                  case atStart => exact ⟨0, Nat.zero_le _, rfl, rfl, Below.refl _ _⟩
                  case round =>
                    obtain ⟨q, hq, rfl, rfl, hbel⟩ := hrel
                    have px := (hbel.cell (World.block_lt_of_cell? _ _ px)).trans px
                    have py := (hbel.cell (World.block_lt_of_cell? _ _ py)).trans py
                    have p4 := (hbel.cell (World.block_lt_of_cell? _ _ p4)).trans p4
                    by_cases hlt2 : q < M.length
                    · obtain ⟨bm, om2, rfl, _, Y⟩ := (HRY.out.below hbel).get hlt2
                      obtain ⟨y0, y1, y2, y3, y4, y5, y6⟩ := Y
                      have HNX2 := Lib.hid (idx_next L M q hlt2)
                      have HIN := Lib.hid (fun h => idx_in HTX.out HTY.out HSUB.out q hlt2 h)
                      have HNO := Lib.hid (fun h i (hi : i < L.length) => idx_out (L := L) q hlt2 h hi)
                      have HQO := Lib.hid (HOUT.out _ (List.getElem_mem hlt2))
                      have HQL := Lib.hid (HOLD.out _ (List.getElem_mem hlt2))
                      have hIq : idx L M q ≤ q := Nat.le_trans (List.length_filter_le _ _) (by rw [List.length_take]; omega)
                      generalize M[q]'hlt2 = y at *
                      generalize idx L M q = I at *
                      obtain ⟨ow, how⟩ : ∃ ow, (ok && decide (y.nm = s.nm ∧ y.st = at_)) = ow := ⟨_, rfl⟩
                      rw [how] at HQO HQL
                      have HOW := Lib.hid how
                      clear how
                      have g2 : (0 : Int) ≤ (q : Int) := by omega
                      have g3 : (q : Int) < (M.length : Int) := by omega
                      go_upto_region 23 with fail
                      go_cut [22] (fun s22 wx => s22 = .bool ow ∧ Below wr.heap.size wr wx)
                      case first => as_aux_lemma =>
                        clear HQO HQL HNO HIN HNX2
                        cases ok
                        · go_quiet (fail)
                          go_wp2_with fail
                          go_meet
                          exact ⟨by rw [← HOW.out]; rfl, below_drewN (Below.refl _ _) nq⟩
                        · cases h1 : (y.nm.toList == s.nm.toList)
                          · have hne : y.nm ≠ s.nm := fun e => by rw [e] at h1; simp at h1
                            go_quiet (fail)
                            go_wp2_with fail
                            go_meet
                            exact ⟨by rw [← HOW.out]; simp [hne], below_drewN (Below.refl _ _) nq⟩
                          · cases h2 : (y.st == at_)
                            · have hne : y.st ≠ at_ := by simpa using h2
                              go_quiet (fail)
                              go_wp2_with fail
                              go_meet
                              exact ⟨by rw [← HOW.out]; simp [hne], below_drewN (Below.refl _ _) nq⟩
                            · have he1 : y.nm = s.nm := bytes_inj (by simpa using h1)
                              have he2 : y.st = at_ := by simpa using h2
                              go_quiet (fail)
                              go_wp2_with fail
                              go_meet
                              exact ⟨by rw [← HOW.out]; simp [he1, he2], below_drewN (Below.refl _ _) nq⟩
                      case rest => as_aux_lemma =>
                        obtain ⟨rfl, hbw2⟩ := hcut
                        have px := (hbw2.cell (World.block_lt_of_cell? _ _ px)).trans px
                        have py := (hbw2.cell (World.block_lt_of_cell? _ _ py)).trans py
                        have y0 := (hbw2.cell (World.block_lt_of_cell? _ _ y0)).trans y0
                        have y1 := (hbw2.cell (World.block_lt_of_cell? _ _ y1)).trans y1
                        have y2 := (hbw2.cell (World.block_lt_of_cell? _ _ y2)).trans y2
                        have y3 := (hbw2.cell (World.block_lt_of_cell? _ _ y3)).trans y3
                        have y4 := (hbw2.cell (World.block_lt_of_cell? _ _ y4)).trans y4
                        have y5 := (hbw2.cell (World.block_lt_of_cell? _ _ y5)).trans y5
                        have y6 := (hbw2.cell (World.block_lt_of_cell? _ _ y6)).trans y6
                        have hbel3 := hbel.trans (hbw2.mono hbel.size)
                        have RX := HRX.out.below hbel3
                        clear p4 hbel hbw2 HOW
                        cases hin : inL L y
                        · have hown : ow = true := HQO.out hin
                          subst hown
                          have HK := Lib.hid (show idx L M (q + 1) = I from by rw [HNX2.out, hin]; simp)
                          by_cases hI : I < L.length
                          · have hno := HNO.out hin I hI
                            obtain ⟨bx, ox2, rfl, _, X⟩ := RX.get hI
                            obtain ⟨x0, x1, x2, x3, x4, x5, x6⟩ := X
                            clear HNO HIN HQO HQL HNX2
                            generalize L[I]'hI = x at *
                            have g4 : (0 : Int) ≤ (I : Int) := by omega
                            have g5 : (I : Int) < (L.length : Int) := by omega
                            cases h1 : (x.nm.toList == y.nm.toList)
                            · clear hno
                              go_upto_region 24 with fail
                              go_quiet (fail)
                              go_wp2_with fail
                              go_roundw
                              case rel => exact ⟨q + 1, by omega, by rw [HK.out], by go_num, by repeat (first | exact hbel3 | refine below_drewN ?_ _)⟩
                              case measure => simp [intOf]; omega
                            · cases h2 : (x.st == y.st)
                              · clear hno
                                go_upto_region 24 with fail
                                go_quiet (fail)
                                go_wp2_with fail
                                go_roundw
                                case rel => exact ⟨q + 1, by omega, by rw [HK.out], by go_num, by repeat (first | exact hbel3 | refine below_drewN ?_ _)⟩
                                case measure => simp [intOf]; omega
                              · exact absurd ⟨bytes_inj (by simpa using h1), by simpa using h2⟩ hno
                          · have hd : decide ((I : Int) < (L.length : Int)) = false := decide_eq_false (by omega)
                            clear HNO HIN HQO HQL HNX2
                            go_upto_region 24 with fail
                            go_quiet (fail)
                            go_wp2_with fail
                            go_roundw
                            case rel => exact ⟨q + 1, by omega, by rw [HK.out], by go_num, by repeat (first | exact hbel3 | refine below_drewN ?_ _)⟩
                            case measure => simp [intOf]; omega
                        · obtain ⟨hI, e1, e2, e3⟩ := HIN.out hin
                          have HK := Lib.hid (show idx L M (q + 1) = I + 1 from by rw [HNX2.out, hin]; simp)
                          obtain ⟨bx, ox2, rfl, _, X⟩ := RX.get hI
                          have h1 : ((L[I]'hI).nm.toList == y.nm.toList) = true := by rw [e1]; simp
                          have h2 : ((L[I]'hI).st == y.st) = true := by rw [e2]; simp
                          have g4 : (0 : Int) ≤ (I : Int) := by omega
                          have g5 : (I : Int) < (L.length : Int) := by omega
                          cases ow
                          · have e4 := e3 (HQL.out rfl)
                            rw [e4] at X
                            obtain ⟨x0, x1, x2, x3, x4, x5, x6⟩ := X
                            clear HNO HIN HQO HQL HNX2 e1 e2 e3 e4 h1 h2
                            go_upto_region 24 with fail
                            go_quiet (fail)
                            go_upto_region 25 with fail
                            go_quiet (fail)
                            go_wp2_with fail
                            go_roundw
                            case rel => exact ⟨q + 1, by omega, by rw [HK.out]; go_num, by go_num, by repeat (first | exact hbel3 | refine below_drewN ?_ _)⟩
                            case measure => simp [intOf]; omega
                          · obtain ⟨x0, x1, x2, x3, x4, x5, x6⟩ := X
                            clear HNO HIN HQO HQL HNX2 e1 e2 e3
                            generalize L[I]'hI = x at *
                            go_upto_region 24 with fail
                            go_quiet (fail)
                            go_upto_region 25 with fail
                            go_quiet (fail)
                            go_wp2_with fail
                            go_roundw
                            case rel => exact ⟨q + 1, by omega, by rw [HK.out]; go_num, by go_num, by repeat (first | exact hbel3 | refine below_drewN ?_ _)⟩
                            case measure => simp [intOf]; omega
                    · have hqe : q = M.length := by omega
                      subst hqe
                      rw [idx_all HTX.out HTY.out HSUB.out]
                      have S5 := S4.below hbel
                      clear S4 HRY HRX HOLD HOUT p4
                      go_wp2_with fail
                      go_roundw
                      case rel => exact ⟨j + 1, by omega, by go_num, S5⟩
                      case measure => simp [intOf]; omega
            · have hd0 : decide ((j : Int) < (n : Int)) = false := decide_eq_false (by omega)
              have hbw := HB8.out.trans (S.bel.mono HB8.out.size)
              go_wp2_with fail
              refine (alive_any _).mono ?_
              rintro e w9 ⟨rfl, hb9⟩
              go_wp2_with fail
              go_ret
              exact ⟨rfl, hbw.trans (hb9.mono hbw.size)⟩
end Go.Proofs.Ytcmlfepmgiikpaa
