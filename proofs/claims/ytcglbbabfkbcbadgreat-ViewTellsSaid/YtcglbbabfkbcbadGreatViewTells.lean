/-
  ViewTells: its walk.
-/
import Derived.Test.YtcglbbabfkbcbadGreatViewTellsFr
import Derived.Test.YtcglbbabfkbcbadGreatBookApartView
import Derived.Test.YtcglbbabfkbcbadGreatM16
import Derived.Test.YtcglbbabfkbcbadGreatViewAskNo
import Derived.Test.YtcglbbabfkbcbadGreatM17
import Derived.Test.YtcglbbabfkbcbadGreatViewCount
import Derived.Outline
import Derived.Deep.CutBlock
import Derived.Deep.DeepCutAuto
namespace Go.Proofs.YtcglbbabfkbcbadGreat
open Go.RowKit Go.Deep

set_option maxRecDepth 100000 in
set_option maxHeartbeats 4000000 in
theorem walk_viewTells0 (nm : ByteArray) (A : Option Addr) (n c : Nat) (ts : List Ti) (now : Int) (F : Option Addr) (m cf : Nat) (fls : List Int) (C : Option Addr) (k ec : Nat) (l : List Smp) (tier : Int) (s : ByteArray) (f t : Int) (w : World)
    (hnm : nm.size ≤ maxLen) (hT : Tis w A n ts) (hnb : -9223372036854775808 ≤ now ∧ now ≤ 9223372036854775807) (hF : Ints w .i64 F m fls) (hL : Smps w C k l) (hs : s.size ≤ maxLen) :
    Calls Tryz.prog 3 #[polV nm A n c, .int .i64 now, .slice F m cf, .slice C k ec, .int .i64 tier, .string s, .int .i64 f, .int .i64 t] w fun e w' => e = .returned (.bool true) ∧ Below w.heap.size w w' := by
  have hb0 := (Below.refl w.heap.size w).alloc (Nat.le_refl _) (.cells #[.string nm, .slice A n c] 24)
  have B0 := Bx.new w 24 #[.string nm, .slice A n c]
  have HSM := Lib.hid (small_any nm A n c ts _ hnm (hT.below hb0))
  have HT := Lib.hid hT
  have HF := Lib.hid hF
  have HL := Lib.hid hL
  have hmm := hF.n_le
  unfold maxLen at hmm hs
  have HN := Lib.hid hnb
  clear hT hF hL hnb hnm
  go_enter Tryz.func3, Tryz.ntmps3
  go_wp2_with fail
  refine HSM.out.mono ?_
  rintro e w1 ⟨b, rfl, hsm, hb1⟩
  have hbw := hb0.trans (hb1.mono hb0.size)
  have B1 := B0.below hb1
  cases b
  · clear hsm B0 B1
    go_wp2_with fail
    refine (alive_any _).mono ?_
    rintro e w9 ⟨rfl, hb9⟩
    go_wp2_with fail
    go_ret
    exact ⟨rfl, hbw.trans (hb9.mono hbw.size)⟩
  obtain ⟨hn10, _⟩ := hsm rfl
  clear hsm B0 hb1 hb0
  by_cases hm : 12 < m
  · clear B1
    go_wp2_with fail
    refine (alive_any _).mono ?_
    rintro e w9 ⟨rfl, hb9⟩
    go_wp2_with fail
    go_ret
    exact ⟨rfl, hbw.trans (hb9.mono hbw.size)⟩
  go_wp2_with fail
  refine (some_any 40 C k ec l w1 (HL.out.below hbw) (by omega)).mono ?_
  rintro e w2 ⟨b, rfl, hsome, rfl⟩
  cases b
  · clear hsome B1
    go_wp2_with fail
    refine (alive_any _).mono ?_
    rintro e w9 ⟨rfl, hb9⟩
    go_wp2_with fail
    go_ret
    exact ⟨rfl, hbw.trans (hb9.mono hbw.size)⟩
  have hk40 := hsome rfl
  clear hsome
  by_cases hs60 : 60 < s.size
  · clear B1
    go_wp2_with fail
    refine (alive_any _).mono ?_
    rintro e w9 ⟨rfl, hb9⟩
    go_wp2_with fail
    go_ret
    exact ⟨rfl, hbw.trans (hb9.mono hbw.size)⟩
  go_wp2_with fail
  obtain ⟨I1, HI1⟩ : ∃ I : Act → World → Prop, Hid (I = fun a' wr => ∃ j : Nat, Fr235 a' [(1, .int .i64 now), (2, .slice F m cf), (3, .slice C k ec), (4, .int .i64 tier), (5, .string s), (6, .int .i64 f), (7, .int .i64 t), (8, .pointer (some ⟨w.heap.size, 0, none⟩)), (17, .int .i64 (j : Int))] ∧ j ≤ n ∧ (∀ i (h : i < ts.length), i < j → 1 ≤ ts[i].ev) ∧ wr = w1) := ⟨_, Lib.hid rfl⟩
  refine wp_loop I1 (fun a' _ => n - (intOf (a'.tmps.toList.getD 17 undef)).toNat) ?_ ?_
  · rw [HI1.out]; exact ⟨0, ⟨rfl, rfl, rfl, rfl, rfl, rfl, rfl, rfl, rfl, rfl, rfl, trivial⟩, Nat.zero_le _, fun i h hi => absurd hi (by omega), rfl⟩
  · intro a' wr hI
    rw [HI1.out] at hI
    obtain ⟨j, hfr, hj, hev, hwr⟩ := hI
    have hwr' := hwr.symm
    clear hwr
    subst hwr'
    obtain ⟨u, rfl⟩ := frt_1 hfr
    clear hfr
    have HEV := Lib.hid hev
    clear hev
    have q0 := B1.at_ 0 (v := .string nm) rfl
    have q1 := B1.at_ 1 (v := .slice A n c) rfl
    by_cases hlt : j < n
    · have K : j < ts.length := by rw [HT.out.len]; exact hlt
      obtain ⟨bb, off, rfl, hbl, X⟩ := (HT.out.below hbw).get K
      have x1 := X.c1
      have HE2 := Lib.hid (show 1 ≤ (ts[j]'K).ev → ∀ i (h : i < ts.length), i < j + 1 → 1 ≤ ts[i].ev from fun h1 i h hi => by
        by_cases e : i = j
        · subst e; exact h1
        · exact HEV.out i h (by omega))
      have g0 : (0 : Int) ≤ (j : Int) := by omega
      have g1 : (j : Int) < (n : Int) := by omega
      clear X
      obtain ⟨ev, hevv⟩ : ∃ ev, ev = (ts[j]'K).ev := ⟨_, rfl⟩
      rw [← hevv] at x1 HE2
      clear hevv
      by_cases h1 : ev < 1
      · clear B1
        go_wp2_with fail
        refine (alive_any _).mono ?_
        rintro e w9 ⟨rfl, hb9⟩
        go_wp2_with fail
        go_ret
        exact ⟨rfl, hbw.trans (hb9.mono hbw.size)⟩
      · have HE3 := Lib.hid (HE2.out (by omega))
        go_wp2_with fail
        exact ⟨by rw [HI1.out]; exact ⟨j + 1, ⟨rfl, rfl, rfl, rfl, rfl, rfl, rfl, rfl, rfl, rfl, rfl, trivial⟩, by omega, HE3.out, rfl⟩, show n - (j + 1) < n - j by omega⟩
    · have hje : n = j := by omega
      subst hje
      have HEA := Lib.hid (show ∀ x ∈ ts, 1 ≤ x.ev from fun x hx => by
        obtain ⟨i, hi, rfl⟩ := List.mem_iff_getElem.1 hx
        exact HEV.out i hi (by rw [← HT.out.len]; exact hi))
      go_wp2_with fail
      obtain ⟨W, hW⟩ : ∃ W, W = (w1.alloc (.cells #[.int .i64 now, .string nm, .slice A n c, .slice F m cf] 33)).alloc (.cells noFs 44) := ⟨_, rfl⟩
      have S0 := vt_start (X := #[.int .i64 now, .string nm, .slice A n c, .slice F m cf]) hbw B1 hW
      rw [show (.cells #[.slice none 0 0, .slice none 0 0, .slice none 0 0, .slice none 0 0, .slice none 0 0, .slice none 0 0, .slice none 0 0, .slice none 0 0, .slice none 0 0, .slice none 0 0, .slice none 0 0, .slice none 0 0, .slice none 0 0, .slice none 0 0, .slice none 0 0, .slice none 0 0] 44 : Obj) = .cells noFs 44 from rfl]
      rw [← hW]
      obtain ⟨B, hB⟩ : ∃ B, B = W.heap.size := ⟨_, rfl⟩
      rw [← hB] at S0
      obtain ⟨bx, hbx⟩ : ∃ bx, bx = w1.heap.size := ⟨_, rfl⟩
      rw [← hbx] at S0 ⊢
      obtain ⟨bk, hbk⟩ : ∃ bk, bk = bx + 1 := ⟨_, rfl⟩
      rw [← hbk] at S0 ⊢
      clear hW hB hbx hbk B1 hbw q0 q1 hm hj
      obtain ⟨I2, HI2⟩ : ∃ I : Act → World → Prop, Hid (I = fun a' wr => ∃ (kk : Nat) (fs : Array Value) (LI : List (List Int)) (LR : List (List Rc)), Fr235 a' [(1, .int .i64 now), (2, .slice F m cf), (3, .slice C k ec), (4, .int .i64 tier), (5, .string s), (6, .int .i64 f), (7, .int .i64 t), (8, .pointer (some ⟨w.heap.size, 0, none⟩)), (18, .pointer (some ⟨bx, 0, none⟩)), (19, .pointer (some ⟨bk, 0, none⟩)), (20, .int .i64 (kk : Int))] ∧ kk ≤ 2 ∧ VtR w wr B bx bk #[.string nm, .slice A n c] #[.int .i64 now, .string nm, .slice A n c, .slice F m cf] fs LI LR bx (fun _ => False) (fun _ => False) ∧ Hid (VtN LI LR kk (12 * kk))) := ⟨_, Lib.hid rfl⟩
      refine wp_loop I2 (fun a' _ => 2 - (intOf (a'.tmps.toList.getD 20 undef)).toNat) ?_ ?_
      · rw [HI2.out]; exact ⟨0, noFs, [], [], ⟨rfl, rfl, rfl, rfl, rfl, rfl, rfl, rfl, rfl, rfl, rfl, rfl, rfl, trivial⟩, by omega, S0, Lib.hid ⟨by simp, by simp, by simp, by simp⟩⟩
      · clear S0
        intro a' wr hI
        rw [HI2.out] at hI
        obtain ⟨kk, fs, LI, LR, hfr, hkk, S, HN0⟩ := hI
        obtain ⟨u, rfl⟩ := frt_2 hfr
        clear hfr
        by_cases hk2 : kk < 2
        · have p0 := S.pol.at_ 0 (v := .string nm) rfl
          have p1 := S.pol.at_ 1 (v := .slice A n c) rfl
          have HTr := Lib.hid (HT.out.below S.bel)
          have HFr := Lib.hid (HF.out.below S.bel)
          go_wp2_with fail
          refine (reachOf_any now nm A n c ts F m cf fls wr HTr.out HFr.out (by omega) (by omega) HN.out).mono ?_
          rintro e w2 ⟨A', c', B', d', rfl, hr2, hot, hof, hb2⟩
          have S2 := S.below hb2
          clear p0 p1 HTr HFr
          go_wp2_with fail
          have hba := (Below.refl w2.heap.size w2).alloc (Nat.le_refl _) (.cells #[.int .i64 now, .string nm, .slice A' n c', .slice B' m d'] 46)
          have RB := Bx.new w2 46 #[.int .i64 now, .string nm, .slice A' n c', .slice B' m d']
          obtain ⟨w2a, hw2a⟩ : ∃ w2a, w2a = w2.alloc (.cells #[.int .i64 now, .string nm, .slice A' n c', .slice B' m d'] 46) := ⟨_, rfl⟩
          obtain ⟨rb, hrb⟩ : ∃ rb, rb = w2.heap.size := ⟨_, rfl⟩
          rw [← hw2a] at hba RB ⊢
          rw [← hrb] at RB ⊢
          clear hw2a hrb
          have hb2a := hb2.trans (hba.mono hb2.size)
          have HL2a := Lib.hid (HL.out.below (S2.below hba).bel)
          refine (lentSamples_any C k ec l w2a HL2a.out.sl HL2a.out.len (by omega)).mono ?_
          rintro e w3 ⟨mb, mc, rfl, hm3, hb3⟩
          have hb23 := hb2a.trans (hb3.mono hb2a.size)
          have hb33 := hba.trans (hb3.mono hba.size)
          have M3 : VtM w3 wr.heap.size rb A' n c' B' m d' ⟨now, nm, ts, fls⟩ mb mc k l := ⟨RB.below hb3, bk_below hot hb33, bk_below hof hb33, bk_low hm3 hb2a.size, ⟨w2, hr2⟩, HL.out.len, HL.out.ok⟩
          clear hot hof hr2 RB hba hb33 hm3 S2 HL2a
          have r0 := M3.rbx.at_ 0 (v := .int .i64 now) rfl
          have r1 := M3.rbx.at_ 1 (v := .string nm) rfl
          have r2 := M3.rbx.at_ 2 (v := .slice A' n c') rfl
          have r3 := M3.rbx.at_ 3 (v := .slice B' m d') rfl
          go_wp2_with fail
          refine (tier_any A' n c' B' m d' ⟨now, nm, ts, fls⟩ tier (some ⟨mb, 0, none⟩) k mc l w3 M3.rch (by omega) (M3.smps (by omega)) (by omega)).mono ?_
          rintro e w4 ⟨va, rfl, ha4, hb4⟩
          have hb24 := hb23.trans (hb4.mono hb23.size)
          have M4 := M3.below hb4
          have HA4 := Lib.hid ha4
          clear ha4 M3 r0 r1 r2 r3
          have r0 := M4.rbx.at_ 0 (v := .int .i64 now) rfl
          have r1 := M4.rbx.at_ 1 (v := .string nm) rfl
          have r2 := M4.rbx.at_ 2 (v := .slice A' n c') rfl
          have r3 := M4.rbx.at_ 3 (v := .slice B' m d') rfl
          go_wp2_with fail
          refine (all_any A' n c' B' m d' ⟨now, nm, ts, fls⟩ (some ⟨mb, 0, none⟩) k mc l w4 M4.rch (by omega) (M4.smps (by omega)) (by omega)).mono ?_
          rintro e w5 ⟨vl, vs, rfl, hv5, hb5⟩
          have hb25 := hb24.trans (hb5.mono hb24.size)
          obtain ⟨AA, cc, rfl⟩ := hv5.slice'
          rw [viewAll_len] at hv5 ⊢
          have HV5 := Lib.hid hv5
          have M5 := M4.below hb5
          clear hv5 M4 r0 r1 r2 r3
          have r0 := M5.rbx.at_ 0 (v := .int .i64 now) rfl
          have r1 := M5.rbx.at_ 1 (v := .string nm) rfl
          have r2 := M5.rbx.at_ 2 (v := .slice A' n c') rfl
          have r3 := M5.rbx.at_ 3 (v := .slice B' m d') rfl
          go_wp2_with fail
          refine (count_any A' n c' B' m d' ⟨now, nm, ts, fls⟩ (some ⟨mb, 0, none⟩) k mc l w5 M5.rch (by omega) (M5.smps (by omega)) (by omega)).mono ?_
          rintro e w6 ⟨vn, rfl, hn6, hb6⟩
          obtain ⟨AN, cn, rfl, _⟩ := own_sl hn6
          obtain ⟨Aa, ca, rfl, _⟩ := own_sl HA4.out
          have hb26 := hb25.trans (hb6.mono hb25.size)
          have M6 := M5.below hb6
          have HA6 := Lib.hid (bk_below HA4.out (hb5.trans (hb6.mono hb5.size)))
          have HV6 := Lib.hid (HV5.out.below hb6)
          obtain ⟨qb, hqb⟩ : ∃ qb, qb = ((Value.slice AA n cc).ownBlock).getD bx := ⟨_, rfl⟩
          have HQB := Lib.hid (show ∀ b, (Value.slice AA n cc).ownBlock = some b → qb = b from fun b e => by rw [hqb, e]; rfl)
          have S6 := S.turn (qb' := qb) (QI' := fun q => (Value.slice AN n cn).ownBlock = some q) (QR' := fun q => (Value.slice Aa (viewL ⟨now, nm, ts, fls⟩ tier l).length ca).ownBlock = some q ∨ QAll vs 0 q) hb26 (by
            cases e : (Value.slice AA n cc).ownBlock with
            | none => exact .inl (by rw [hqb, e]; rfl)
            | some q => rw [hqb, e]; have h1 := (HV5.out.own.lt q e); have h2 := hb24.size; have h3 := hb6.size; exact .inr ⟨by show _ ≤ q; omega, by show q < _; omega⟩) (fun q hq => by have h1 := hn6.lt q hq; have h2 := hb25.size; omega) (fun q hq => by
            rcases hq with hq | ⟨j, _, hj, hq⟩
            · have h1 := HA4.out.lt q hq; have h2 := hb23.size; have h3 := (hb5.trans (hb6.mono hb5.size)).size; omega
            · have h1 := (HV5.out.each j hj (by rw [← HV5.out.len]; exact hj)).lt q hq; have h2 := hb24.size; have h3 := hb6.size; omega)
          have hC4 : B ≤ w4.heap.size := Nat.le_trans S.hB hb24.size
          have hC3 : B ≤ w3.heap.size := Nat.le_trans S.hB hb23.size
          have hC5 : B ≤ w5.heap.size := Nat.le_trans S.hB hb25.size
          have h34 : w3.heap.size ≤ w4.heap.size := hb4.size
          have hla := view_len ⟨now, nm, ts, fls⟩ tier l
          have hlk := HL.out.len
          have HQA := Lib.hid (show ∀ q, QAll vs 0 q → (fun q => ((Value.slice Aa (viewL ⟨now, nm, ts, fls⟩ tier l).length ca).ownBlock = some q ∨ QAll vs 0 q) ∧ (Value.slice Aa (viewL ⟨now, nm, ts, fls⟩ tier l).length ca).ownBlock ≠ some q) q from fun q hq => ⟨.inr hq, fun e => by
            obtain ⟨j, _, hj, hq⟩ := hq
            have h1 := (HV5.out.each j hj (by rw [← HV5.out.len]; exact hj)).lt q hq
            have h2 := HA4.out.lt q e
            omega⟩)
          clear hqb HA4 HV5 M5 r0 r1 r2 r3 S hb26 hb25 hb24 hb23 hb2a hb2 hb3 hb4 hb5 hb6
          go_wp2_with fail
          refine (S6.keepR hC3 HA6.out (view_ok _ _ _ HL.out.ok) (by have := HN0.out.fewR; omega) (by omega) (fun q hq => .inl hq)).mono ?_
          rintro e w7 ⟨rfl, fs7, S7, hs7, hq7⟩
          have M7 := M6.stood hs7 S6.book
          have HA7 := Lib.hid (hs7.own S6.book HA6.out (by decide) (by decide))
          have HV7 := Lib.hid (HV6.out.stood hs7 S6.book (fun b hb => by rw [← HQB.out b hb]; exact hq7))
          have HN7 := Lib.hid (hs7.own S6.book hn6 (by decide) (by decide))
          clear M6 HA6 HV6 hn6 hs7 hq7 S6
          go_wp2_with fail
          refine (S7.keepI (l := countL ⟨now, nm, ts, fls⟩ l n) hC5 (by rw [flat_one, countL_len]; exact HN7.out) (countL_wf _ _ _ (by omega)) (by have := HN0.out.fewI; omega) (by rw [countL_len]; omega) (fun q hq => hq)).mono ?_
          rintro e w8 ⟨rfl, fs8, S8, hs8⟩
          have M8 := M7.stoodI hs8 S7.book
          have HA8 := Lib.hid (hs8.own S7.book HA7.out (by decide) (by decide))
          have HV8 := Lib.hid (HV7.out.stoodI hs8 S7.book)
          have HN8 := Lib.hid (hs8.own S7.book HN7.out (by decide) (by decide))
          have HN9 := Lib.hid ((HN0.out.r (l := viewL ⟨now, nm, ts, fls⟩ tier l) (by omega)).i (l := countL ⟨now, nm, ts, fls⟩ l n) (by rw [countL_len]; omega))
          have S8 := S8.less HQA.out
          clear M7 HA7 HV7 HN7 hs8 S7 HN0 HQA
          have x0 := S8.box.at_ 0 (v := .int .i64 now) rfl
          have x1 := S8.box.at_ 1 (v := .string nm) rfl
          have x2 := S8.box.at_ 2 (v := .slice A n c) rfl
          have x3 := S8.box.at_ 3 (v := .slice F m cf) rfl
          go_wp2_with fail
          refine (refView_any A n c F m cf ⟨now, nm, ts, fls⟩ tier C k ec l w8 ⟨HT.out.below S8.bel, HF.out.below S8.bel, HN.out⟩ (by omega) (HL.out.below S8.bel) (by omega) HEA.out).mono ?_
          rintro e w9 ⟨vW, rfl, ho9, hb9⟩
          obtain ⟨AW, cW, rfl, hsW⟩ := own_sl ho9
          have S9 := S8.below hb9
          have M9 := M8.below hb9
          have HA9 := Lib.hid (bk_below HA8.out hb9)
          have HV9 := Lib.hid (HV8.out.below hb9)
          have HN9' := Lib.hid (bk_below HN8.out hb9)
          obtain ⟨_, _, e, hsA⟩ := own_sl HA9.out
          cases e
          have p1 := S9.pol.at_ 1 (v := .slice A n c) rfl
          clear x0 x1 x2 x3 S8 M8 HA8 HV8 HN8 hb9 ho9
          go_wp2_with fail
          refine (sameRecs_any Aa AW (viewL ⟨now, nm, ts, fls⟩ tier l).length (viewL ⟨now, nm, ts, fls⟩ tier l).length ca cW (viewL ⟨now, nm, ts, fls⟩ tier l) w9 (viewRecords hsA rfl (by omega) (view_ok _ _ _ HL.out.ok)) (viewRecords hsW rfl (by omega) (view_ok _ _ _ HL.out.ok))).mono ?_
          rintro e w10 ⟨rfl, hb10⟩
          have S10 := S9.below hb10
          have M10 := M9.below hb10
          have HV10 := Lib.hid (HV9.out.below hb10)
          have HN10 := Lib.hid (bk_below HN9'.out hb10)
          have p1 := S10.pol.at_ 1 (v := .slice A n c) rfl
          clear S9 M9 HA9 HV9 HN9' hb10 hsA hsW
          go_wp2_with fail
          clear p1
          obtain ⟨C5, hC5'⟩ : ∃ x, x = w5.heap.size := ⟨_, rfl⟩
          obtain ⟨C4, hC4'⟩ : ∃ x, x = w4.heap.size := ⟨_, rfl⟩
          obtain ⟨CM, hCM'⟩ : ∃ x, x = wr.heap.size := ⟨_, rfl⟩
          rw [← hC5'] at HN10
          rw [← hC4'] at HV10 hC4
          rw [← hCM'] at M10
          clear hC5' hC4' hCM' hC5 hC3 h34
          obtain ⟨I3, HI3⟩ : ∃ I : Act → World → Prop, Hid (I = fun a' wr => ∃ (i : Nat) (fs : Array Value) (LI : List (List Int)) (LR : List (List Rc)), Fr235 a' [(1, .int .i64 now), (2, .slice F m cf), (3, .slice C k ec), (4, .int .i64 tier), (5, .string s), (6, .int .i64 f), (7, .int .i64 t), (8, .pointer (some ⟨w.heap.size, 0, none⟩)), (18, .pointer (some ⟨bx, 0, none⟩)), (19, .pointer (some ⟨bk, 0, none⟩)), (20, .int .i64 (kk : Int)), (21, .pointer (some ⟨rb, 0, none⟩)), (22, .slice (some ⟨mb, 0, none⟩) k mc), (24, .slice AA n cc), (25, .slice AN n cn), (26, .int .i64 (i : Int))] ∧ i ≤ n ∧ VtR w wr B bx bk #[.string nm, .slice A n c] #[.int .i64 now, .string nm, .slice A n c, .slice F m cf] fs LI LR qb (fun _ => False) (QAll vs i) ∧ VtM wr CM rb A' n c' B' m d' ⟨now, nm, ts, fls⟩ mb mc k l ∧ VRows wr C4 (.slice AA n cc) vs (viewAll ⟨now, nm, ts, fls⟩ l n) ∧ wr.ownsRow C5 3 1 (.slice AN n cn) n ((countL ⟨now, nm, ts, fls⟩ l n).map (Value.int .i64)) ∧ Hid (VtN LI LR (kk + 1) (12 * kk + 1 + i))) := ⟨_, Lib.hid rfl⟩
          refine wp_loop I3 (fun a' _ => n - (intOf (a'.tmps.toList.getD 26 undef)).toNat) ?_ ?_
          · rw [HI3.out]; exact ⟨0, fs8, _, _, ⟨rfl, rfl, rfl, rfl, rfl, rfl, rfl, rfl, rfl, rfl, rfl, rfl, rfl, rfl, rfl, rfl, rfl, rfl, trivial⟩, Nat.zero_le _, S10, M10, HV10.out, HN10.out, HN9⟩
          · clear S10 M10 HV10 HN10 HN9
            intro a' wr hI
            rw [HI3.out] at hI
            obtain ⟨i, fs, LI, LR, hfr, hi, S, M, hV, hN, HNN⟩ := hI
            obtain ⟨u, rfl⟩ := frt_3 hfr
            clear hfr
            by_cases hin : i < n
            · have x0 := S.box.at_ 0 (v := .int .i64 now) rfl
              have x1 := S.box.at_ 1 (v := .string nm) rfl
              have x2 := S.box.at_ 2 (v := .slice A n c) rfl
              have x3 := S.box.at_ 3 (v := .slice F m cf) rfl
              go_wp2_with fail
              refine (refView_any A n c F m cf ⟨now, nm, ts, fls⟩ (i : Int) C k ec l wr ⟨HT.out.below S.bel, HF.out.below S.bel, HN.out⟩ (by omega) (HL.out.below S.bel) (by omega) HEA.out).mono ?_
              rintro e w2 ⟨vW, rfl, ho2, hb2⟩
              obtain ⟨AW, cW, rfl, hsW⟩ := own_sl ho2
              have S2 := S.below hb2
              have M2 := M.below hb2
              have HV2 := Lib.hid (hV.below hb2)
              have HN2 := Lib.hid (bk_below hN hb2)
              have HO2 := Lib.hid ho2
              have HPB := Lib.hid (view_psum ⟨now, nm, ts, fls⟩ (i : Int) l HL.out.ok (by omega))
              have HPA := Lib.hid (view_pall ⟨now, nm, ts, fls⟩ (i : Int) l HL.out.ok (by omega))
              have HPZ := Lib.hid (psum_zero (viewL ⟨now, nm, ts, fls⟩ (i : Int) l))
              have hli := view_len ⟨now, nm, ts, fls⟩ (i : Int) l
              have HOK := Lib.hid (view_ok ⟨now, nm, ts, fls⟩ (i : Int) l HL.out.ok)
              have HPS := Lib.hid (fun j => @psum_succ (viewL ⟨now, nm, ts, fls⟩ (i : Int) l) j)
              obtain ⟨L, hL⟩ : ∃ L, L = viewL ⟨now, nm, ts, fls⟩ (i : Int) l := ⟨_, rfl⟩
              rw [← hL] at HPB HPA HPZ hli HOK HO2 hsW HPS ⊢
              have HLL := Lib.hid hL
              have HSW := Lib.hid (viewRecords hsW rfl (by omega) HOK.out)
              clear hL x0 x1 x2 x3 S M hV hN hb2 ho2 hsW
              obtain ⟨nL, hnL⟩ : ∃ nL, nL = L.length := ⟨_, rfl⟩
              rw [← hnL] at HPA hli HO2 HSW ⊢
              have HNL := Lib.hid hnL
              clear hnL
              go_wp2_with fail
              obtain ⟨I4, HI4⟩ : ∃ I : Act → World → Prop, Hid (I = fun a' wr => ∃ (j : Nat), Fr235 a' [(1, .int .i64 now), (2, .slice F m cf), (3, .slice C k ec), (4, .int .i64 tier), (5, .string s), (6, .int .i64 f), (7, .int .i64 t), (8, .pointer (some ⟨w.heap.size, 0, none⟩)), (18, .pointer (some ⟨bx, 0, none⟩)), (19, .pointer (some ⟨bk, 0, none⟩)), (20, .int .i64 (kk : Int)), (21, .pointer (some ⟨rb, 0, none⟩)), (22, .slice (some ⟨mb, 0, none⟩) k mc), (24, .slice AA n cc), (25, .slice AN n cn), (26, .int .i64 (i : Int)), (27, .slice AW nL cW), (28, .int .i64 (psum L j)), (29, .int .i64 (j : Int))] ∧ j ≤ nL ∧ wr = w2) := ⟨_, Lib.hid rfl⟩
              refine wp_loop I4 (fun a' _ => nL - (intOf (a'.tmps.toList.getD 29 undef)).toNat) ?_ ?_
              · rw [HI4.out]; exact ⟨0, ⟨rfl, rfl, rfl, rfl, rfl, rfl, rfl, rfl, rfl, rfl, rfl, rfl, rfl, rfl, rfl, rfl, rfl, rfl, rfl, by rw [HPZ.out]; rfl, rfl, trivial⟩, Nat.zero_le _, rfl⟩
              · intro a' wr hI
                rw [HI4.out] at hI
                obtain ⟨j, hfr, hj, hwr⟩ := hI
                have hwr' := hwr.symm
                clear hwr
                subst hwr'
                obtain ⟨u, rfl⟩ := frt_4 hfr
                clear hfr
                by_cases hjl : j < nL
                · have K : j < L.length := by rw [← HNL.out]; exact hjl
                  obtain ⟨b4, o4, rfl, hb4, X⟩ := HSW.out.get K
                  have z2 := X.c2
                  have HPS' := Lib.hid (HPS.out j K)
                  have hp1 := HPB.out j
                  have hp2 := HPB.out (j + 1)
                  rw [HPS'.out] at hp2
                  clear X
                  generalize (L[j]'K).ag.c = zc at *
                  generalize psum L j = pj at *
                  go_wp2_with fail
                  exact ⟨by rw [HI4.out]; exact ⟨j + 1, ⟨rfl, rfl, rfl, rfl, rfl, rfl, rfl, rfl, rfl, rfl, rfl, rfl, rfl, rfl, rfl, rfl, rfl, rfl, rfl, by rw [HPS'.out]; rfl, rfl, trivial⟩, by omega, rfl⟩, show nL - (j + 1) < nL - j by omega⟩
                · have hje : nL = j := by omega
                  rw [← hje, HPA.out]
                  clear HPS HPB HPZ
                  clear hj hjl hje
                  obtain ⟨g, off, Ai, ci, rfl, hg, hc, ho, hjv, ev⟩ := vt_at HV2.out hin
                  rw [← HLL.out, ← HNL.out] at hc ev
                  rw [← HLL.out] at ho
                  rw [← HNL.out] at ho
                  go_upto_region 31 with fail
                  go_wp2_with fail
                  refine (S2.keepR hC4 (l := L) (by rw [← HNL.out]; exact ho) HOK.out (by have := HNN.out.fewR; omega) (by rw [← HNL.out]; omega) (fun q hq => qall_in hjv q (by rw [ev]; exact hq))).mono ?_
                  rintro e w3 ⟨rfl, fs3, S3, hs3, hq3⟩
                  have M3 := M2.stood hs3 S2.book
                  have HV3 := Lib.hid (HV2.out.stood hs3 S2.book (fun b hb => by rw [← HQB.out b hb]; exact hq3))
                  have HN3 := Lib.hid (hs3.own S2.book HN2.out (by decide) (by decide))
                  have HO3 := Lib.hid (hs3.own S2.book HO2.out (by decide) (by decide))
                  obtain ⟨hc3, ho3⟩ := vt_cell HV3.out hjv ev
                  rw [← HLL.out, ← HNL.out] at ho3
                  have S3 := S3.less (Q' := QAll vs (i + 1)) (fun q hq => by have := qall_next hjv HV2.out.apart q hq; rw [ev] at this; exact this)
                  have HNX := Lib.hid ((HNN.out.r (l := L) (by rw [← HNL.out]; omega)).more (Nat.le_refl _))
                  obtain ⟨_, _, e, hsA⟩ := own_sl ho3
                  cases e
                  obtain ⟨_, _, e, hsW⟩ := own_sl HO3.out
                  cases e
                  clear hc ho M2 HV2 HN2 HO2 hs3 hq3 S2 HNN ev hg
                  go_upto_region 32 with fail
                  go_wp2_with fail
                  refine (sameRecs_any Ai AW nL nL ci cW L w3 (viewRecords hsA HNL.out.symm (by omega) HOK.out) (viewRecords hsW HNL.out.symm (by omega) HOK.out)).mono ?_
                  rintro e w4 ⟨rfl, hb4⟩
                  have S4 := S3.below hb4
                  have M4 := M3.below hb4
                  have HV4 := Lib.hid (HV3.out.below hb4)
                  have HN4 := Lib.hid (bk_below HN3.out hb4)
                  obtain ⟨gn, on, rfl, _, hcn⟩ := vt_count HN4.out hin
                  clear S3 M3 HV3 HN3 HO3 hb4 hsA hsW hc3 ho3
                  go_wp2_with fail
                  exact ⟨by rw [HI3.out]; exact ⟨i + 1, fs3, LI, LR ++ [L], ⟨rfl, rfl, rfl, rfl, rfl, rfl, rfl, rfl, rfl, rfl, rfl, rfl, rfl, rfl, rfl, rfl, rfl, rfl, trivial⟩, by omega, S4, M4, HV4.out, HN4.out, HNX⟩, show n - (i + 1) < n - i by omega⟩
            · have hie : n = i := by omega
              subst hie
              clear hi hin hV hN
              have r0 := M.rbx.at_ 0 (v := .int .i64 now) rfl
              have r1 := M.rbx.at_ 1 (v := .string nm) rfl
              have r2 := M.rbx.at_ 2 (v := .slice A' n c') rfl
              have r3 := M.rbx.at_ 3 (v := .slice B' m d') rfl
              have SQ := S.turn (qb' := bx) (QI' := fun _ => False) (QR' := fun _ => False) (Below.refl _ _) (.inl rfl) (fun _ h => h.elim) (fun _ h => h.elim)
              have HCA := Lib.hid (ask_len' ⟨now, nm, ts, fls⟩ s f t l)
              have HCK := Lib.hid (ask_ok' ⟨now, nm, ts, fls⟩ s f t l HL.out.ok)
              have HAR := Lib.hid (ask_range ⟨now, nm, ts, fls⟩ s f t l)
              have HBW := S.hB
              have hsm : s.size ≤ maxLen := by unfold maxLen; omega
              clear S
              by_cases hE : asksE s f t = 0
              · obtain ⟨hv, hf0, hft⟩ := asks_yes hE
                go_upto_region 34 with fail
                go_wp2_with fail
                refine (ask_yes A' n c' B' m d' ⟨now, nm, ts, fls⟩ s f t (some ⟨mb, 0, none⟩) k mc l wr M.rch (by omega) (M.smps (by omega)) (by omega) hsm hv hf0 hft).mono ?_
                rintro e w2 ⟨D, qc, rfl, hoD, hb2⟩
                go_wp2_with fail
                have hbA := (Below.refl w2.heap.size w2).alloc (Nat.le_refl _) (.cells #[.int .i64 (Rch.cover ⟨now, nm, ts, fls⟩ f), .slice D (askL ⟨now, nm, ts, fls⟩ s f t l).length qc] 63)
                have BA := Bx.new w2 63 #[.int .i64 (Rch.cover ⟨now, nm, ts, fls⟩ f), .slice D (askL ⟨now, nm, ts, fls⟩ s f t l).length qc]
                obtain ⟨w2a, hw2a⟩ : ∃ w2a, w2a = w2.alloc (.cells #[.int .i64 (Rch.cover ⟨now, nm, ts, fls⟩ f), .slice D (askL ⟨now, nm, ts, fls⟩ s f t l).length qc] 63) := ⟨_, rfl⟩
                obtain ⟨ab, hab⟩ : ∃ ab, ab = w2.heap.size := ⟨_, rfl⟩
                rw [← hw2a] at hbA BA ⊢
                rw [← hab] at BA ⊢
                clear hw2a hab
                have hb2a := hb2.trans (hbA.mono hb2.size)
                have hD := bk_below hoD hbA
                have S2 := SQ.turn (qb' := bx) (QI' := fun _ => False) (QR' := fun q => (Value.slice D (askL ⟨now, nm, ts, fls⟩ s f t l).length qc).ownBlock = some q) hb2a (.inl rfl) (fun _ h => h.elim) (fun q hq => hD.lt q hq)
                have M2 := M.below hb2a
                clear SQ M hoD hbA hb2 hb2a r0 r1 r2 r3
                refine (refAsks_any s f t w2a hsm).mono ?_
                rintro e w3 ⟨rfl, hw⟩
                subst hw
                rw [hE]
                have b0 := BA.at_ 0 (v := .int .i64 (Rch.cover ⟨now, nm, ts, fls⟩ f)) rfl
                have b1 := BA.at_ 1 (v := .slice D (askL ⟨now, nm, ts, fls⟩ s f t l).length qc) rfl
                go_wp2_with fail
                refine (S2.keepR (l := (askL ⟨now, nm, ts, fls⟩ s f t l)) HBW hD HCK.out (by have := HNN.out.fewR; omega) (by have := HCA.out; omega) (fun q hq => hq)).mono ?_
                rintro e w3 ⟨rfl, fs3, S3, hs3, _⟩
                have M3 := M2.stood hs3 S2.book
                have BA3 := BA.stands hs3 S2.book (by decide) (by decide)
                have hD3 := hs3.own S2.book hD (by decide) (by decide)
                have HNX := Lib.hid ((HNN.out.r (l := (askL ⟨now, nm, ts, fls⟩ s f t l)) (by have := HCA.out; omega)).more (show 12 * kk + 1 + n + 1 ≤ 12 * (kk + 1) by omega))
                have S3 := S3.less (Q' := fun _ => False) (fun _ h => h.elim)
                clear b0 b1 S2 M2 BA hD hs3 HNN
                go_wp2_with fail
                refine (staysSamples_any mb mc k CM ec C l w3 M3.smp (HL.out.below S3.bel) HL.out.len HL.out.ok (by omega)).mono ?_
                rintro e w4 ⟨rfl, hb4⟩
                have S4 := S3.below hb4
                have BA4 := BA3.below hb4
                have hD4 := bk_below hD3 hb4
                clear S3 M3 BA3 hD3 hb4
                have x0 := S4.box.at_ 0 (v := .int .i64 now) rfl
                have x1 := S4.box.at_ 1 (v := .string nm) rfl
                have x2 := S4.box.at_ 2 (v := .slice A n c) rfl
                have x3 := S4.box.at_ 3 (v := .slice F m cf) rfl
                go_wp2_with fail
                refine (refCover_any A n c F m cf ⟨now, nm, ts, fls⟩ f w4 ⟨HT.out.below S4.bel, HF.out.below S4.bel, HN.out⟩ (by omega)).mono ?_
                rintro e w5 ⟨rfl, hb5⟩
                have S5 := S4.below hb5
                have BA5 := BA4.below hb5
                have hD5 := bk_below hD4 hb5
                clear S4 BA4 hD4 hb5 x0 x1 x2 x3
                have x0 := S5.box.at_ 0 (v := .int .i64 now) rfl
                have x1 := S5.box.at_ 1 (v := .string nm) rfl
                have x2 := S5.box.at_ 2 (v := .slice A n c) rfl
                have x3 := S5.box.at_ 3 (v := .slice F m cf) rfl
                go_wp2_with fail
                refine (refView_any A n c F m cf ⟨now, nm, ts, fls⟩ (Rch.cover ⟨now, nm, ts, fls⟩ f) C k ec l w5 ⟨HT.out.below S5.bel, HF.out.below S5.bel, HN.out⟩ (by omega) (HL.out.below S5.bel) (by omega) HEA.out).mono ?_
                rintro e w6 ⟨vV, rfl, ho6, hb6⟩
                have S6 := S5.below hb6
                have BA6 := BA5.below hb6
                have hD6 := bk_below hD5 hb6
                obtain ⟨AV, cV, rfl, _⟩ := own_sl ho6
                clear S5 BA5 hD5 x0 x1 x2 x3
                go_upto_region 42 with fail
                have hbT := (Below.refl w6.heap.size w6).alloc (Nat.le_refl _) (.cells #[.int .i64 0, .slice AV (viewL ⟨now, nm, ts, fls⟩ (Rch.cover ⟨now, nm, ts, fls⟩ f) l).length cV] 72)
                have RT : RTab (w6.alloc (.cells #[.int .i64 0, .slice AV (viewL ⟨now, nm, ts, fls⟩ (Rch.cover ⟨now, nm, ts, fls⟩ f) l).length cV] 72)) w6.heap.size w5.heap.size 0 (viewL ⟨now, nm, ts, fls⟩ (Rch.cover ⟨now, nm, ts, fls⟩ f) l) (.slice AV (viewL ⟨now, nm, ts, fls⟩ (Rch.cover ⟨now, nm, ts, fls⟩ f) l).length cV) := ⟨Bx.new _ _ _, bk_below ho6 hbT, view_tab _ _ _ HL.out.ok, view_ok _ _ _ HL.out.ok⟩
                obtain ⟨w7, hw7⟩ : ∃ w7, w7 = w6.alloc (.cells #[.int .i64 0, .slice AV (viewL ⟨now, nm, ts, fls⟩ (Rch.cover ⟨now, nm, ts, fls⟩ f) l).length cV] 72) := ⟨_, rfl⟩
                obtain ⟨tb, htb⟩ : ∃ tb, tb = w6.heap.size := ⟨_, rfl⟩
                rw [← hw7] at hbT RT ⊢
                rw [← htb] at RT ⊢
                have S7 := S6.below hbT
                have BA7 := BA6.below hbT
                have hD7 := bk_below hD6 hbT
                obtain ⟨_, _, e, hsD⟩ := own_sl hD7
                cases e
                have HRG := Lib.hid (fun W (hW : Below w7.heap.size w7 W) => refRange_any tb w5.heap.size 0 _ _ s f t W (RT.below hW) (by have := view_len ⟨now, nm, ts, fls⟩ (Rch.cover ⟨now, nm, ts, fls⟩ f) l; omega))
                rw [HAR.out] at HRG
                have HK := Lib.hid (show ∀ w', Below w7.heap.size w7 w' → w'.cell? ⟨ab, 0, none⟩ = some (.int .i64 (Rch.cover ⟨now, nm, ts, fls⟩ f)) ∧ w'.cell? ⟨ab, 1, none⟩ = some (.slice D (askL ⟨now, nm, ts, fls⟩ s f t l).length qc) from fun w' hb => ⟨(BA7.below hb).at_ 0 rfl, (BA7.below hb).at_ 1 rfl⟩)
                have hbD := (Below.refl w7.heap.size w7).drew
                have HK0 := And.intro hbD (HK.out _ hbD)
                have HDR := Lib.hid (show ∀ w', Below w7.heap.size w7 w' → Rcs w' D (askL ⟨now, nm, ts, fls⟩ s f t l).length (askL ⟨now, nm, ts, fls⟩ s f t l) from fun w' hb => viewRecords (hsD.below hb) rfl (by have := HCA.out; omega) HCK.out)
                have HSL := Lib.hid (show ∀ w', Below w7.heap.size w7 w' → VtR w w' B bx bk #[.string nm, .slice A n c] #[.int .i64 now, .string nm, .slice A n c, .slice F m cf] fs3 LI (LR ++ [(askL ⟨now, nm, ts, fls⟩ s f t l)]) bx (fun _ => False) (fun _ => False) from fun w' hb => S7.below hb)
                clear hw7 htb S6 BA6 hD6 ho6 hb6 RT BA7 hD7 hsD HAR S7 hbT
                generalize hcv : (Rch.cover ⟨now, nm, ts, fls⟩ f) = cv at *
                generalize hal : (askL ⟨now, nm, ts, fls⟩ s f t l) = LL at *
                have ecc : (cv != cv) = false := bne_self_eq_false _
                go_region_held3 (fun w' => Below w7.heap.size w7 w' ∧ w'.cell? ⟨ab, 0, none⟩ = some (.int .i64 cv) ∧ w'.cell? ⟨ab, 1, none⟩ = some (.slice D LL.length qc))
                  (first
                    | assumption
                    | exact HK0
                    | (go_split_ands; exact And.intro (by assumption) (HK.out _ (by assumption)))
                    | (go_split_ands; exact And.intro (Below.trans (by assumption) (Below.mono hb8 (Below.size (by assumption)))) (HK.out _ (Below.trans (by assumption) (Below.mono hb8 (Below.size (by assumption))))))
                    | (go_split_ands; exact And.intro (Below.trans (by assumption) (Below.mono hb9 (Below.size (by assumption)))) (HK.out _ (Below.trans (by assumption) (Below.mono hb9 (Below.size (by assumption)))))))
                  (first
                    | (go_at_call 20; go_split_ands; refine (HRG.out _ (by assumption)).mono ?_; rintro e w8 ⟨v8, rfl, ho8, hb8⟩; obtain ⟨A8, c8, rfl, hs8⟩ := own_sl ho8
                       have HV8 := Lib.hid (show Rcs w8 A8 LL.length LL from viewRecords hs8 rfl (by have := HCA.out; omega) HCK.out)
                       clear ho8 hs8)
                    | (go_at_call 14; go_split_ands; refine (sameRecs_any D A8 LL.length LL.length qc c8 LL _ (HDR.out _ (by assumption)) HV8.out).mono ?_; rintro e w9 ⟨rfl, hb9⟩))
                go_split_ands
                have hbz : Below w7.heap.size w7 w9 := by assumption
                go_wp2_with fail
                exact ⟨by rw [HI2.out]; exact ⟨kk + 1, fs3, LI, LR ++ [LL], ⟨rfl, rfl, rfl, rfl, rfl, rfl, rfl, rfl, rfl, rfl, rfl, rfl, rfl, trivial⟩, by omega, (HSL.out _ hbz).turn (Below.refl _ _) (.inl rfl) (fun _ h => h.elim) (fun _ h => h.elim), HNX⟩, show 2 - (kk + 1) < 2 - kk by omega⟩
              · have hE1 := asks_no hE
                go_upto_region 34 with fail
                go_wp2_with fail
                refine (ask_no A' n c' B' m d' ⟨now, nm, ts, fls⟩ s f t (some ⟨mb, 0, none⟩) k mc wr hsm hE1).mono ?_
                rintro e w2 ⟨rfl, hb2⟩
                have hoD : w2.ownsRow wr.heap.size 61 7 (.slice none 0 0) 0 (([] : List Rc).flatMap Rc.cells) := World.ownsRow_nil _ _ _ _
                go_wp2_with fail
                have hbA := (Below.refl w2.heap.size w2).alloc (Nat.le_refl _) (.cells #[.int .i64 0, .slice none 0 0] 63)
                have BA := Bx.new w2 63 #[.int .i64 0, .slice none 0 0]
                obtain ⟨w2a, hw2a⟩ : ∃ w2a, w2a = w2.alloc (.cells #[.int .i64 0, .slice none 0 0] 63) := ⟨_, rfl⟩
                obtain ⟨ab, hab⟩ : ∃ ab, ab = w2.heap.size := ⟨_, rfl⟩
                rw [← hw2a] at hbA BA ⊢
                rw [← hab] at BA ⊢
                clear hw2a hab
                have hb2a := hb2.trans (hbA.mono hb2.size)
                have hD := bk_below hoD hbA
                have S2 := SQ.turn (qb' := bx) (QI' := fun _ => False) (QR' := fun q => (Value.slice none 0 0).ownBlock = some q) hb2a (.inl rfl) (fun _ h => h.elim) (fun q hq => hD.lt q hq)
                have M2 := M.below hb2a
                clear SQ M hoD hbA hb2 hb2a r0 r1 r2 r3
                refine (refAsks_any s f t w2a hsm).mono ?_
                rintro e w3 ⟨rfl, hw⟩
                subst hw
                rw [hE1]
                have b0 := BA.at_ 0 (v := .int .i64 0) rfl
                have b1 := BA.at_ 1 (v := .slice none 0 0) rfl
                go_wp2_with fail
                refine (S2.keepR (l := ([] : List Rc)) HBW hD (by simp) (by have := HNN.out.fewR; omega) (by simp) (fun q hq => hq)).mono ?_
                rintro e w3 ⟨rfl, fs3, S3, hs3, _⟩
                have M3 := M2.stood hs3 S2.book
                have BA3 := BA.stands hs3 S2.book (by decide) (by decide)
                have hD3 := hs3.own S2.book hD (by decide) (by decide)
                have HNX := Lib.hid ((HNN.out.r (l := ([] : List Rc)) (by simp)).more (show 12 * kk + 1 + n + 1 ≤ 12 * (kk + 1) by omega))
                have S3 := S3.less (Q' := fun _ => False) (fun _ h => h.elim)
                clear b0 b1 S2 M2 BA hD hs3 HNN
                go_wp2_with fail
                refine (staysSamples_any mb mc k CM ec C l w3 M3.smp (HL.out.below S3.bel) HL.out.len HL.out.ok (by omega)).mono ?_
                rintro e w4 ⟨rfl, hb4⟩
                have S4 := S3.below hb4
                have BA4 := BA3.below hb4
                have hD4 := bk_below hD3 hb4
                clear S3 M3 BA3 hD3 hb4
                have b0 := BA4.at_ 0 (v := .int .i64 0) rfl
                have b1 := BA4.at_ 1 (v := .slice none 0 0) rfl
                go_wp2_with fail
                exact ⟨by rw [HI2.out]; exact ⟨kk + 1, fs3, LI, LR ++ [([] : List Rc)], ⟨rfl, rfl, rfl, rfl, rfl, rfl, rfl, rfl, rfl, rfl, rfl, rfl, rfl, trivial⟩, by omega, S4.turn (Below.refl _ _) (.inl rfl) (fun _ h => h.elim) (fun _ h => h.elim), HNX⟩, show 2 - (kk + 1) < 2 - kk by omega⟩
        · have hke : 2 = kk := by omega
          subst hke
          go_wp2_with fail
          refine (alive_any _).mono ?_
          rintro e wa ⟨rfl, hba⟩
          have S9 := S.below hba
          have HAP := Lib.hid (apartView_any bk B fs LI LR wa S9.book S9.ints.bk (by have := HN0.out.fewI; omega) HN0.out.longI S9.recs.bk (by have := HN0.out.fewR; omega) HN0.out.longR S9.hB S9.nil)
          have hwB : w.heap.size ≤ B := Nat.le_of_lt (Nat.lt_trans S9.hwx S9.hx)
          go_wp2_with fail
          refine HAP.out.mono ?_
          rintro e wb ⟨rfl, hbb⟩
          go_wp2_with fail
          go_ret
          exact ⟨rfl, S9.bel.trans (hbb.mono hwB)⟩
end Go.Proofs.YtcglbbabfkbcbadGreat
