/-
  ViewLater: its walk.
-/
import Derived.Test.YtcmlfepmgiikpaaLaterLaws
import Derived.Test.YtcmlfepmgiikpaaViewAlive
import Derived.Test.YtcmlfepmgiikpaaSameRecsV
import Derived.Test.YtcmlfepmgiikpaaFillV
namespace Go.Proofs.Ytcmlfepmgiikpaa
open Go.ChangeShapes Go.WideShapes Go.ChangeAt Go.RowKit Go.Deep Go.Maps

/-- The policy's box, while calls go on. -/
structure PbS (w0 w' : World) (b : Nat) (nm : ByteArray) (A : Option Addr) (n c : Nat) : Prop where
  bx : Bx w' b 24 #[.string nm, .slice A n c]
  bel : Below w0.heap.size w0 w'
section
variable {w0 w w' : World} {b : Nat} {nm : ByteArray} {A : Option Addr} {n c : Nat}
theorem PbS.below (h : PbS w0 w b nm A n c) (hb : Below w.heap.size w w') : PbS w0 w' b nm A n c := ⟨h.bx.below hb, h.bel.trans (hb.mono h.bel.size)⟩
theorem PbS.drew (h : PbS w0 w b nm A n c) : PbS w0 w.drew b nm A n c := h.below ((Below.refl _ _).drew)
theorem PbS.full (h : PbS w0 w b nm A n c) : PbS w0 w b nm A n c ∧ w.cell? ⟨b, 0, none⟩ = some (.string nm) ∧ w.cell? ⟨b, 1, none⟩ = some (.slice A n c) := ⟨h, h.bx.at_ 0 rfl, h.bx.at_ 1 rfl⟩
end
set_option maxRecDepth 100000 in
set_option maxHeartbeats 8000000 in
theorem walk_viewLater {w : World} {v0 : Value} (x : ByteArray × Option Addr × Nat × Nat × List Ti) (hx : PolArg w v0 x) (now : Int) (hnow : (Lit.int .i64 now).wf = true) (more : Int) (hmore : (Lit.int .i64 more).wf = true) {v3 : Value} (y : Option Addr × Nat × Nat × List Smp) (hy : SmpsArg w v3 y) (tier : Int) (_ : (Lit.int .i64 tier).wf = true) :
    Calls Try.prog 4 #[v0, .int .i64 now, .int .i64 more, v3, .int .i64 tier] w fun e w' => e = .returned (.bool true) ∧ Below w.heap.size w w' := by
  obtain ⟨nm, A, n, c, ts⟩ := x
  obtain ⟨hval, hnm, hts⟩ := hx
  simp only at hval hnm hts
  subst hval
  obtain ⟨C, k, ec, l⟩ := y
  obtain ⟨hval, hl⟩ := hy
  simp only at hval hl
  subst hval
  have hnb := bd_i64' hnow
  have hmb := bd_i64' hmore
  have hb0 : Below w.heap.size w (w.alloc (.cells #[.string nm, .slice A n c] 24)) := (Below.refl _ w).alloc (Nat.le_refl _) _
  have B0 := Bx.new w 24 #[.string nm, .slice A n c]
  have HTS := Lib.hid hts
  have HL := Lib.hid hl
  obtain ⟨ce, hce⟩ : ∃ ce, (checkR nm.toList ts).1 = ce := ⟨_, rfl⟩
  have HCK := Lib.hid (refCheck_any nm A n c ts (w.alloc (.cells #[.string nm, .slice A n c] 24)) hnm (hts.below hb0))
  rw [hce] at HCK
  clear hce hts hl hnow hmore
  go_enter Try.func4, Try.ntmps4
  go_wp2_with fail
  refine HCK.out.mono ?_
  rintro e w1 ⟨rfl, hb1⟩
  have B1 := B0.below hb1
  have hbw := hb0.trans (hb1.mono hb0.size)
  have p0 := B1.at_ 0 rfl
  have p1 := B1.at_ 1 rfl
  clear hb0 hb1 B0 HCK
  go_wp2_with fail
  refine (small_any nm A n c ts w1 hnm (HTS.out.below hbw)).mono ?_
  rintro e w2 ⟨b, rfl, hsm, hb2⟩
  have B2 := B1.below hb2
  have hbw := hbw.trans (hb2.mono hbw.size)
  clear hb2 B1 p0 p1
  cases b
  · clear hsm
    go_wp2_with fail
    refine (alive_any _).mono ?_
    rintro e w9 ⟨rfl, hb9⟩
    go_wp2_with fail
    go_ret
    exact ⟨rfl, hbw.trans (hb9.mono hbw.size)⟩
  · obtain ⟨hn10, _⟩ := hsm rfl
    go_wp2_with fail
    refine (some_any 40 C k ec l w2 (HL.out.below hbw) (by omega)).mono ?_
    rintro e w3 ⟨b, rfl, hso, rfl⟩
    cases b
    · clear hso
      go_wp2_with fail
      refine (alive_any _).mono ?_
      rintro e w9 ⟨rfl, hb9⟩
      go_wp2_with fail
      go_ret
      exact ⟨rfl, hbw.trans (hb9.mono hbw.size)⟩
    · have hk40 := hso rfl
      have HK40 : k ≤ 40 := by omega
      clear hso hk40
      by_cases hg0 : more < 0
      · clear B2
        go_wp2_with fail
        refine (alive_any _).mono ?_
        rintro e w9 ⟨rfl, hb9⟩
        go_wp2_with fail
        go_ret
        exact ⟨rfl, hbw.trans (hb9.mono hbw.size)⟩
      have hd0 : decide (more < 0) = false := decide_eq_false hg0
      by_cases hg1 : 1000000 < more
      · clear B2
        go_wp2_with fail
        refine (alive_any _).mono ?_
        rintro e w9 ⟨rfl, hb9⟩
        go_wp2_with fail
        go_ret
        exact ⟨rfl, hbw.trans (hb9.mono hbw.size)⟩
      have hd1 : decide (1000000 < more) = false := decide_eq_false hg1
      by_cases hg2 : now < 0
      · clear B2
        go_wp2_with fail
        refine (alive_any _).mono ?_
        rintro e w9 ⟨rfl, hb9⟩
        go_wp2_with fail
        go_ret
        exact ⟨rfl, hbw.trans (hb9.mono hbw.size)⟩
      have hd2 : decide (now < 0) = false := decide_eq_false hg2
      by_cases hg3 : 1099511627776 < now
      · clear B2
        go_wp2_with fail
        refine (alive_any _).mono ?_
        rintro e w9 ⟨rfl, hb9⟩
        go_wp2_with fail
        go_ret
        exact ⟨rfl, hbw.trans (hb9.mono hbw.size)⟩
      have hd3 : decide (1099511627776 < now) = false := decide_eq_false hg3
      by_cases hg4 : ce = 0
      rotate_left
      · have hne : (ce == 0) = false := beq_eq_false_iff_ne.2 hg4
        clear B2 hg4
        go_wp2_with fail
        refine (alive_any _).mono ?_
        rintro e w9 ⟨rfl, hb9⟩
        go_wp2_with fail
        go_ret
        exact ⟨rfl, hbw.trans (hb9.mono hbw.size)⟩
      subst hg4
      have S0 : PbS w w2 w.heap.size nm A n c := ⟨B2, hbw⟩
      have S0D := S0.drew
      obtain ⟨b0, hb0⟩ : ∃ b0, b0 = w.heap.size := ⟨_, rfl⟩
      have HO1 := Lib.hid (fun W (hW : Below w.heap.size w W) => reachOf_any now nm A n c ts none 0 0 [] W (HTS.out.below hW) ⟨Sl.nil _ _, rfl, by decide, by simp⟩ (by omega) (by omega) hnb)
      have HO2 := Lib.hid (fun W (hW : Below w.heap.size w W) => reachOf_any (now + more) nm A n c ts none 0 0 [] W (HTS.out.below hW) ⟨Sl.nil _ _, rfl, by decide, by simp⟩ (by omega) (by omega) (by omega))
      have hadd : IntKind.i64.wrap (now + more) = now + more := IntWalk.i64_in _ (by omega)
      go_upto_region 4 with fail
      go_region_held3 (fun w' => PbS w w' w.heap.size nm A n c ∧ w'.cell? ⟨w.heap.size, 0, none⟩ = some (.string nm) ∧ w'.cell? ⟨w.heap.size, 1, none⟩ = some (.slice A n c))
        (first
          | assumption
          | exact S0D.full
          | (go_split_ands; exact PbS.full (by assumption))
          | (go_split_ands; exact PbS.full (PbS.below (by assumption) hbo1))
          | (go_split_ands; exact PbS.full (PbS.below (by assumption) hbt1))
          | (go_split_ands; exact PbS.full (PbS.below (by assumption) hbo2))
          | (go_split_ands; exact PbS.full (PbS.below (by assumption) hbt2)))
        (first
          | (go_at_call 10; go_split_ands; (with_reducible refine (HO1.out _ (PbS.bel (by assumption))).mono ?_); rintro e wo1 ⟨A1, c1, P1, d1, rfl, hR1, _, _, hbo1⟩)
          | (go_at_call 10; go_split_ands; refine (HO2.out _ (PbS.bel (by assumption))).mono ?_; rintro e wo2 ⟨A2, c2, P2, d2, rfl, hR2, _, _, hbo2⟩)
          | (go_at_call 14; go_split_ands; (with_reducible refine (tier_any A1 n c1 P1 0 d1 ⟨now, nm, ts, []⟩ tier C k ec l _ hR1 (by omega) (HL.out.below (PbS.bel (by assumption))) (by omega)).mono ?_); rintro e wt1 ⟨va, rfl, hrow1, hbt1⟩)
          | (go_at_call 14; go_split_ands; refine (tier_any A2 n c2 P2 0 d2 ⟨now + more, nm, ts, []⟩ tier C k ec l _ hR2 (by omega) (HL.out.below (PbS.bel (by assumption))) (by omega)).mono ?_; rintro e wt2 ⟨vb, rfl, hrow2, hbt2⟩))
      go_split_ands
      have hfin : PbS w wt2 w.heap.size nm A n c := by assumption
      have hbf := hfin.bel
      obtain ⟨Aa, ca, rfl, Ra⟩ := own_rcs hrow1 (view_ok ⟨now, nm, ts, []⟩ tier l HL.out.ok) (by have := view_len ⟨now, nm, ts, []⟩ tier l; have := HL.out.len; unfold maxLen; omega)
      obtain ⟨Ab, cb, rfl, Rb⟩ := own_rcs hrow2 (view_ok ⟨now + more, nm, ts, []⟩ tier l HL.out.ok) (by have := view_len ⟨now + more, nm, ts, []⟩ tier l; have := HL.out.len; unfold maxLen; omega)
      have Ra := (Ra.below hbo2).below hbt2
      have hvl := view_len ⟨now, nm, ts, []⟩ tier l
      have hll := HL.out.len
      have HM := Lib.hid (view_later (nm := nm) (ts := ts) (a := now) (b := now + more) (by omega) tier l HL.out.ok)
      clear hfin hrow1 hrow2 hR1 hR2 hbo1 hbo2 hbt1 hbt2 S0 S0D HO1 HO2 B2 hbw hadd
      generalize viewL ⟨now, nm, ts, []⟩ tier l = L at *
      generalize viewL ⟨now + more, nm, ts, []⟩ tier l = M at *
      generalize Rch.fromI ⟨now + more, nm, ts, []⟩ tier = fb at *
      have hml : M.length ≤ 40 := by rw [HM.out]; exact Nat.le_trans (List.length_filter_le _ _) (by omega)
      have HN := Lib.hid (show ∀ j (h : j < L.length), stays fb L[j] = true → M[((L.take j).filter (stays fb)).length]? = some L[j] from fun j h hp => by rw [HM.out]; exact filter_at (stays fb) L j h hp)
      have HS := Lib.hid (show ∀ j (h : j < L.length), ((L.take (j + 1)).filter (stays fb)).length = ((L.take j).filter (stays fb)).length + if stays fb L[j] = true then 1 else 0 from fun j h => filter_next (stays fb) L j h)
      have HMS := Lib.hid (show ∀ r ∈ M, stays fb r = true from fun r hr => by rw [HM.out] at hr; exact (List.mem_filter.1 hr).2)
      go_wp2_with fail
      obtain ⟨w6, hw6⟩ : ∃ w6, w6 = wt2 := ⟨_, rfl⟩
      subst hw6
      go_loopw [15, 16] (fun k i wr => ∃ j : Nat, j ≤ L.length ∧ i = .int .i64 j ∧ k = .int .i64 (((L.take j).filter (stays fb)).length : Nat) ∧ Below w6.heap.size w6 wr) (fun _ i _ => L.length - (intOf i).toNat)
      case atStart => exact ⟨0, Nat.zero_le _, rfl, rfl, Below.refl _ _⟩
      case round =>
        obtain ⟨j, hj, rfl, rfl, hbel⟩ := hrel
        by_cases hlt : j < L.length
        · have RR := Ra.below hbel
          have MM := Rb.below hbel
          obtain ⟨bb, off, rfl, hbb, X⟩ := RR.get hlt
          obtain ⟨r0, r1, r2, r3, r4, r5, r6⟩ := X
          have HA := Lib.hid (HN.out j hlt)
          have HB' := Lib.hid (HS.out j hlt)
          generalize ((L.take j).filter (stays fb)).length = k at *
          generalize L[j]'hlt = x at *
          have g0 : (0 : Int) ≤ (j : Int) := by omega
          have g1 : (j : Int) < (L.length : Int) := by omega
          have g2 : (0 : Int) ≤ (k : Int) := by omega
          cases hst : stays fb x
          · have HK := Lib.hid (show ((L.take (j + 1)).filter (stays fb)).length = k from by rw [HB'.out, hst]; simp)
            by_cases hkl : k < M.length
            · obtain ⟨b2, off2, rfl, _, Y⟩ := MM.get hkl
              obtain ⟨s0, s1, s2, s3, s4, s5, s6⟩ := Y
              have hsy := HMS.out _ (List.getElem_mem hkl)
              generalize M[k]'hkl = y at *
              have hne : x.st ≠ y.st := by
                intro e
                unfold stays at hst hsy
                rw [e] at hst
                rw [hst] at hsy
                cases hsy
              have hne' : (x.st == y.st) = false := beq_eq_false_iff_ne.2 hne
              have g3 : (k : Int) < (M.length : Int) := by omega
              clear hsy hst hne
              go_wp2
              go_quiet (fail)
              go_wp2
              go_roundw
              case rel => exact ⟨j + 1, by omega, by go_num, by rw [HK.out], below_drewN hbel _⟩
              case measure => simp [intOf]; omega
            · have hd : decide ((k : Int) < (M.length : Int)) = false := decide_eq_false (by omega)
              clear hst
              go_wp2
              go_quiet (fail)
              go_wp2
              go_roundw
              case rel => exact ⟨j + 1, by omega, by go_num, by rw [HK.out], below_drewN hbel _⟩
              case measure => simp [intOf]; omega
          · have HK := Lib.hid (show ((L.take (j + 1)).filter (stays fb)).length = k + 1 from by rw [HB'.out, hst]; simp)
            have hx := HA.out hst
            have hkl : k < M.length := (List.getElem?_eq_some_iff.1 hx).1
            have hxe : M[k] = x := (List.getElem?_eq_some_iff.1 hx).2
            obtain ⟨b2, off2, rfl, _, Y⟩ := MM.get hkl
            rw [hxe] at Y
            obtain ⟨s0, s1, s2, s3, s4, s5, s6⟩ := Y
            have g3 : (k : Int) < (M.length : Int) := by omega
            clear hst hx hxe
            go_wp2
            go_quiet (fail)
            go_wp2
            go_roundw
            case rel => exact ⟨j + 1, by omega, by go_num, by rw [HK.out]; go_num, below_drewN hbel _⟩
            case measure => simp [intOf]; omega
        · have hje : j = L.length := by omega
          subst hje
          have hMe : ((L.take L.length).filter (stays fb)).length = M.length := by rw [List.take_length, ← HM.out]
          rw [hMe]
          clear hMe
          have hbe := hbf.trans (hbel.mono hbf.size)
          go_wp2_with fail
          refine (alive_any _).mono ?_
          rintro e w8 ⟨rfl, hb8⟩
          go_wp2
          go_ret
          exact ⟨rfl, hbe.trans (hb8.mono hbe.size)⟩
end Go.Proofs.Ytcmlfepmgiikpaa
