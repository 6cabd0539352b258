/-
  TableAdds: its walk.
-/
import Derived.Test.YtdlmipoeeiaapaaRecIn
import Derived.Test.YtdlmipoeeiaapaaAlive10
import Derived.Test.YtdlmipoeeiaapaaAddsLaws
import Derived.Test.YtdlmipoeeiaapaaTableNames
import Derived.Test.YtdlmipoeeiaapaaSameRecs
import Derived.Test.YtdlmipoeeiaapaaApp
import Derived.Deep.DeepCutAuto
import Derived.IntWalk
namespace Go.Proofs.Ytdlmipoeeiaapaa
open Go.RowKit Go.Maps Go.Sort

/-- A record stored into a row, cell by cell. -/
abbrev setRc (w : World) (g o : Nat) (x : Rc) : World := ((((((w.setCell ⟨g, o, none⟩ (.string x.nm)).setCell ⟨g, o + 1, none⟩ (.int .i64 x.st)).setCell ⟨g, o + 2, none⟩ (.int .i64 x.ag.c)).setCell ⟨g, o + 3, none⟩ (.int .i64 x.ag.hi)).setCell ⟨g, o + 4, none⟩ (.int .u64 x.ag.lo)).setCell ⟨g, o + 5, none⟩ (.int .i64 x.ag.mn)).setCell ⟨g, o + 6, none⟩ (.int .i64 x.ag.mx)
theorem set_rc (w : World) (g o : Nat) (x : Rc) : setRc w g o x = w.setCells g o x.cells := rfl
theorem RowAt.setRc {w : World} {g cap : Nat} {R : List Rc} (h : RowAt w g cap R) (i : Nat) (x : Rc) : RowAt (setRc w g (i * 7) x) g cap (R.set i x) := by
  rw [set_rc]; exact h.set i x
theorem row_set_get {w : World} {g cap : Nat} {R : List Rc} (h : RowAt w g cap R) (a b : Nat) (hb : b < R.length) (x : Rc) : ∃ z : Rc, RcCells (Go.Proofs.Ytdlmipoeeiaapaa.setRc w g (a * 7) x) g (b * 7) z :=
  ⟨_, (h.setRc a x).get (j := b) (by simpa using hb)⟩
set_option maxRecDepth 100000 in
set_option maxHeartbeats 8000000 in
theorem walk_tableAdds {w : World} (A : Option Addr) (n cap : Nat) (rs : List Rc) (hrs : Rcs w A n rs) (B : Option Addr) (m cb : Nat) (zs : List Int) (hzs : Ints w .i64 B m zs) :
    Calls Try.prog 7 #[.slice A n cap, .slice B m cb] w fun e w' => e = .returned (.bool true) ∧ Below w.heap.size w w' := by
  have hm := hzs.n_le
  unfold maxLen at hm
  obtain ⟨i0, hi, hz0, hz1, hz2⟩ := info_parts info_rec
  by_cases h40 : 40 < m
  · go_enter Try.func7, Try.ntmps7
    go_wp2_with fail
    refine (few_any 30 A n cap rs w hrs (by omega)).mono ?_
    rintro e w1 ⟨v, rfl, hv, rfl⟩
    cases v
    all_goals
      clear hv
      go_wp2_with fail
      refine (alive_any _).mono ?_
      rintro e w2 ⟨rfl, hb2⟩
      go_wp2_with fail
      go_ret
      exact ⟨rfl, hb2⟩
  have hd40 : decide (40 < (m : Int)) = false := decide_eq_false (by omega)
  go_enter Try.func7, Try.ntmps7
  go_wp2_with fail
  refine (few_any 30 A n cap rs w hrs (by omega)).mono ?_
  rintro e w1 ⟨v, rfl, hv, rfl⟩
  cases v
  · clear hv
    go_wp2_with fail
    refine (alive_any _).mono ?_
    rintro e w2 ⟨rfl, hb2⟩
    go_wp2_with fail
    go_ret
    exact ⟨rfl, hb2⟩
  · have hn30 := hv rfl
    have HN30 : n ≤ 30 := by omega
    clear hv hn30
    have HROK := Lib.hid (show ∀ r ∈ rs, r.nm.size ≤ maxLen ∧ (Lit.int .i64 r.st).wf = true ∧ r.ag.Ok from fun r hr => ⟨hrs.nm r hr, hrs.st r hr, hrs.ok r hr⟩)
    have hlen := Lib.hid hrs.len
    have hfit : 0 + n ≤ maxLen ∧ (0 + n) * 64 ≤ 140737488355328 := by unfold maxLen; omega
    have hfl := Lib.hid (show (rs.flatMap Rc.cells).length = n * 7 from by rw [rowK_len rc_len, hrs.len])
    go_wp2_with (first
      | (at_builtin; refine wpList_append_sl _ rfl _ _ 22 rfl w.heap.size 34 i0 _ 7 64 Try.underlying22 hi hz0 hz1 hz2 rfl (by decide) (.slice none 0 0) 0 [] rfl (World.ownsRow_nil _ _ _ _) A n cap _ rfl hfl.out hrs.sl (rows_oneCell rs) hfit.1 hfit.2 (Nat.le_refl _) ?_; intro v1 w1 hown1 hg1 _))
    have hb1 : Below w.heap.size w w1 := (Below.refl _ _).grown hg1 (Nat.le_refl _) (fun k hk => by cases hk)
    have HM1 := Lib.hid (show MRow w1 w.heap.size v1 n rs from ⟨hlen.out, by simpa using hown1⟩)
    clear hown1 hg1 hi hz0 hz1 hz2 hfit
    have hvs : ∃ A1 c1, v1 = .slice A1 n c1 := by
      obtain ⟨A1, c1, e, _⟩ := HM1.out.rcs HROK.out (by unfold maxLen; omega)
      exact ⟨A1, c1, e⟩
    obtain ⟨A1, c1, rfl⟩ := hvs
    go_loopw [6] (fun i wr => ∃ (j : Nat) (ms : List Rc), j ≤ 1000 ∧ i = .int .i64 j ∧ Hid (ms.Perm rs) ∧ Hid (MRow wr w.heap.size (.slice A1 n c1) n ms) ∧ Below w.heap.size w wr) (fun i _ => m - (intOf i).toNat)
    case atStart => exact ⟨0, rs, by omega, rfl, Lib.hid (List.Perm.refl _), HM1, hb1⟩
    case round =>
      obtain ⟨j, ms, hj, rfl, HP, HM, hbel⟩ := hrel
      by_cases hgo : j + 1 < m ∧ 0 < n
      · obtain ⟨hlt, h0⟩ := hgo
        · have hsw : ∃ g, A1 = some ⟨g, 0, none⟩ ∧ w.heap.size ≤ g ∧ RowAt wr g c1 ms := by
            obtain ⟨g, c, e, h1, h2⟩ := HM.out.row h0
            cases e
            exact ⟨g, rfl, h1, h2⟩
          obtain ⟨g, rfl, hg, hR⟩ := hsw
          have hml := HM.out.1
          have HL := Lib.hid hzs.len
          obtain ⟨b2, off2, rfl, hb2, z1⟩ := (hzs.below hbel).get (j := j) (by rw [HL.out]; omega)
          obtain ⟨b3, off3, e3, hb3, z2⟩ := (hzs.below hbel).get (j := j + 1) (by rw [HL.out]; omega)
          cases e3
          have K1 : j < zs.length := by rw [HL.out]; omega
          have K2 : j + 1 < zs.length := by rw [HL.out]; omega
          have hx1 := place_bd (zs[j]'K1) n h0
          have hx2 := place_bd (zs[j + 1]'K2) n h0
          generalize zs[j]'K1 = x at *
          generalize zs[j + 1]'K2 = y at *
          have hbel0 := hbel
          go_wp2
          obtain ⟨x1, x2, x3, x4⟩ := hx1
          obtain ⟨y1, y2, y3, y4⟩ := hx2
          have g0 : (0 : Int) ≤ (j : Int) := by omega
          have g1 : (j : Int) < (m : Int) := by omega
          have g2 : (0 : Int) ≤ (j : Int) + 1 := by omega
          have g3 : (j : Int) + 1 < (m : Int) := by omega
          have g4 : ((n : Int) == 0) = false := beq_eq_false_iff_ne.2 (by omega)
          have e0 : IntKind.i64.wrap ((j : Int) + 1) = (j : Int) + 1 := IntWalk.i64_in _ (by omega)
          have e1 : IntKind.i64.wrap (x.tmod n + n) = x.tmod n + n := IntWalk.i64_in _ (by omega)
          have e2 : IntKind.i64.wrap (y.tmod n + n) = y.tmod n + n := IntWalk.i64_in _ (by omega)
          go_quiet (fail)
          clear e0 e1 e2
          obtain ⟨a, ha⟩ : ∃ a : Nat, (x.tmod n + n) % n = (a : Int) := ⟨((x.tmod n + n) % n).toNat, by have := Int.emod_nonneg (x.tmod n + n) (show (n : Int) ≠ 0 by omega); omega⟩
          obtain ⟨b, hb⟩ : ∃ b : Nat, (y.tmod n + n) % n = (b : Int) := ⟨((y.tmod n + n) % n).toNat, by have := Int.emod_nonneg (y.tmod n + n) (show (n : Int) ≠ 0 by omega); omega⟩
          have han : a < n := by have := Int.emod_lt_of_pos (x.tmod n + n) (show (0 : Int) < n by omega); omega
          have hbn : b < n := by have := Int.emod_lt_of_pos (y.tmod n + n) (show (0 : Int) < n by omega); omega
          rw [ha, hb]
          have hR2 := hR.kept (grown_of_below (below_drewN (Below.refl _ _) nq) none) (by simp)
          have hbel2 := below_drewN hbel nq
          clear ha hb x1 x2 x3 x4 y1 y2 y3 y4 z1 z2 hR hbel hbel0
          generalize wr.drewN nq = wd at *
          have KA : a < ms.length := by rw [hml]; exact han
          have KB : b < ms.length := by rw [hml]; exact hbn
          obtain ⟨p0, p1, p2, p3, p4, p5, p6⟩ := hR2.get KA
          obtain ⟨q0, q1, q2, q3, q4, q5, q6⟩ := hR2.get KB
          obtain ⟨t, s0, s1, s2, s3, s4, s5, s6⟩ := row_set_get hR2 a b KB (ms[b]'KB)
          have f0 := fun o => hR2.free o
          have HS := Lib.hid ((hR2.setRc a (ms[b]'KB)).setRc b (ms[a]'KA))
          have HQ := Lib.hid (swap_perm ms a b KA KB)
          have HG := Lib.hid ((grown_setCells g (ms[b]'KB).cells (a * 7) wd).andThen (grown_setCells g (ms[a]'KA).cells (b * 7) _) (fun j hj => by cases hj; exact Or.inr rfl))
          clear hR2
          generalize (ms[a]'KA) = xa at *
          generalize (ms[b]'KB) = xb at *
          have a0 : (0 : Int) ≤ (a : Int) := by omega
          have a1 : (a : Int) < (n : Int) := by omega
          have b0 : (0 : Int) ≤ (b : Int) := by omega
          have b1 : (b : Int) < (n : Int) := by omega
          go_wp2
          go_region
          go_wp2
          go_roundw
          case rel =>
            refine ⟨j + 1, (ms.set a xb).set b xa, by omega, by go_num, Lib.hid (HQ.out.trans HP.out), Lib.hid ?_, ?_⟩
            · have h1 : MRow _ w.heap.size _ _ _ := MRow.of_row HS.out hg
              rw [show ((ms.set a xb).set b xa).length = n from by simpa using hml] at h1
              exact h1.below ((Below.refl _ _).drew)
            · exact (hbel2.grown HG.out hbel2.size (fun k hk => by cases hk; exact hg)).drew
          case measure => simp [intOf]; omega
      · have HLP := Lib.hid (show addL 1 [] ms = addL 1 [] rs from addL_perm HP.out (fun r hr => (HROK.out r (HP.out.mem_iff.1 hr)).2.2))
        have HNP := Lib.hid (show addN 1 ms = addN 1 rs from addN_perm HP.out)
        have HMOK := Lib.hid (show ∀ r ∈ ms, r.nm.size ≤ maxLen ∧ (Lit.int .i64 r.st).wf = true ∧ r.ag.Ok from fun r hr => HROK.out r (HP.out.mem_iff.1 hr))
        have hml := HM.out.1
        by_cases hlt : j + 1 < m
        all_goals
          first
            | (have hd0 : decide (0 < (n : Int)) = false := decide_eq_false (by omega)
               go_wp2_with fail)
            | (have hd0 : decide ((j : Int) + 1 < (m : Int)) = false := decide_eq_false (by omega)
               go_wp2_with fail)
          clear hd0 hgo
          refine (newT_any 1 _).mono ?_
          rintro e w2 ⟨g1, mm1, rfl, T1, hb2, hg1, hm1⟩
          rw [show max (1 : Int) 1 = 1 from by decide] at T1
          go_wp2_with fail
          refine (newT_any 1 _).mono ?_
          rintro e w3 ⟨g2, mm2, rfl, T2, hb3, hg2, hm2⟩
          rw [show max (1 : Int) 1 = 1 from by decide] at T2
          have hlt1 := T1.lt
          have hlt2 := T1.map.lt
          have T1' := T1.below hb3
          have HM3 := (HM.out.below hb2).below hb3
          have hbel3 := (hbel.trans (hb2.mono hbel.size)).trans (hb3.mono (Nat.le_trans hbel.size hb2.size))
          have hsz2 := hbel.size
          have HO3 := Lib.hid (show ∀ k, (Value.slice A1 n c1).ownBlock = some k → k < wr.heap.size from fun k hk => (HM.out.2.lt k hk).2)
          have hwr2 := hb2.size
          clear T1 hb2 hb3 hbel HM
          go_wp2_with fail
          refine (addT_any (c := cap) _ T1' (hrs.below hbel3) (by decide) (by simp; omega)).mono ?_
          rintro e w4 ⟨rfl, T1, hg4⟩
          have hLl := fill_len rs
          have hlr := hlen.out
          have T2' := T2.grown hg4 (by simp; omega) (by simp; omega)
          have HM4 := Lib.hid (HM3.kept hg4 (fun k hk e => by have := HO3.out k hk; cases e; omega))
          have hbel4 := hbel3.grown hg4 hbel3.size (fun k hk => by cases hk; omega)
          clear HM3 T1' T2 hbel3 hg4
          generalize addL 1 [] rs = L at *
          generalize addN 1 rs = an at *
          go_wp2_with fail
          obtain ⟨w6, hw6⟩ : ∃ w6, w6 = w4 := ⟨_, rfl⟩
          subst hw6
          have hzz := hbel4.size
          have q1 := T1.lt
          have q2 := T1.map.lt
          have q3 := T2'.lt
          have q4 := T2'.map.lt
          go_loopw [12, 13] (fun k i wr => ∃ j : Nat, j ≤ n ∧ i = .int .i64 j ∧ k = .int .i64 (addN 1 (ms.take j)) ∧ TableAt wr g1 mm1 1 L ∧ TableAt wr g2 mm2 1 (addL 1 [] (ms.take j)) ∧ Hid (MRow wr w.heap.size (.slice A1 n c1) n ms) ∧ Below w.heap.size w wr) (fun _ i _ => n - (intOf i).toNat)
          case atStart => exact ⟨0, Nat.zero_le _, rfl, rfl, T1, T2', HM4, hbel4⟩
          case round =>
            clear T1 T2' HM4 hbel4
            obtain ⟨j, hj, rfl, rfl, T1, T2, HM, hbel⟩ := hrel
            by_cases hge : n ≤ j
            · have hje : j = n := by omega
              subst hje
              rw [List.take_of_length_le (by omega), HLP.out] at T2
              rw [List.take_of_length_le (by omega), HNP.out]
              have hL30 : L.length ≤ 30 := by omega
              have hee : ((an : Int) == (an : Int)) = true := by simp
              clear HLP HNP HMOK HM HO3 hLl HROK
              go_wp2_with fail
              refine (alive_any _).mono ?_
              rintro e w8 ⟨rfl, hb8⟩
              have T1 := T1.below hb8
              have T2 := T2.below hb8
              have hbel := hbel.trans (hb8.mono hbel.size)
              clear hb8
              go_wp2_with fail
              refine (allT_any T1 (by omega)).mono ?_
              rintro e w9 ⟨v, rfl, hrow, hb9⟩
              obtain ⟨A9, c9, rfl, R9⟩ := own_rcs hrow T1.ok (by unfold maxLen; omega)
              have T1 := T1.below hb9
              have T2 := T2.below hb9
              have hbel := hbel.trans (hb9.mono hbel.size)
              clear hb9 hrow
              go_wp2_with fail
              refine (allT_any T2 (by omega)).mono ?_
              rintro e w10 ⟨v, rfl, hrow, hb10⟩
              obtain ⟨A10, c10, rfl, R10⟩ := own_rcs hrow T2.ok (by unfold maxLen; omega)
              have T1 := T1.below hb10
              have T2 := T2.below hb10
              have R9 := R9.below hb10
              have hbel := hbel.trans (hb10.mono hbel.size)
              clear hb10 hrow
              go_wp2_with fail
              refine (sameRecs_any _ _ _ _ _ _ _ _ R9 R10).mono ?_
              rintro e w11 ⟨rfl, hb11⟩
              have T1 := T1.below hb11
              have T2 := T2.below hb11
              have hbel := hbel.trans (hb11.mono hbel.size)
              clear hb11 R9 R10
              go_wp2_with fail
              refine (namesT_any T1 (by omega)).mono ?_
              rintro e w12 ⟨v, rfl, hrow, hb12⟩
              have hnmok : ∀ s ∈ L.map Rc.nm, s.size ≤ maxLen := fun s hs => by obtain ⟨r, hr, rfl⟩ := List.mem_map.1 hs; exact (T1.ok r hr).nm
              have hnml : (L.map Rc.nm).length ≤ maxLen := by rw [List.length_map]; unfold maxLen; omega
              have HNO := Lib.hid hnmok
              have HNL := Lib.hid hnml
              clear hnmok hnml
              obtain ⟨A12, c12, rfl, R12⟩ := ord_strs hrow HNO.out HNL.out
              have T2 := T2.below hb12
              have hbel := hbel.trans (hb12.mono hbel.size)
              clear hb12 hrow T1
              go_wp2_with fail
              refine (namesT_any T2 (by omega)).mono ?_
              rintro e w13 ⟨v, rfl, hrow, hb13⟩
              obtain ⟨A13, c13, rfl, R13⟩ := ord_strs hrow HNO.out HNL.out
              have R12 := R12.below hb13
              have hbel := hbel.trans (hb13.mono hbel.size)
              clear hb13 hrow T2
              go_wp2_with fail
              refine (sameTexts_any _ _ _ _ _ _ _ _ _ R12 R13).mono ?_
              rw [show decide (txt (ordB (L.map Rc.nm)) = txt (ordB (L.map Rc.nm))) = true from decide_eq_true rfl]
              rintro e w14 ⟨rfl, hb14⟩
              have hbel := hbel.trans (hb14.mono hbel.size)
              go_wp2_with fail
              go_ret
              exact ⟨rfl, hbel⟩
            all_goals try (exfalso; omega)
            all_goals
              have hlt : j < n := by omega
              have K : j < ms.length := by rw [hml]; exact hlt
              obtain ⟨g, c, e, hBg, hR⟩ := HM.out.row (by omega)
              obtain ⟨rfl, rfl⟩ : A1 = some ⟨g, 0, none⟩ ∧ c1 = c := by cases e; exact ⟨rfl, rfl⟩
              clear e
              obtain ⟨p0, p1, p2, p3, p4, p5, p6⟩ := hR.get K
              have HXO := Lib.hid (HMOK.out _ (List.getElem_mem K))
              have HN := Lib.hid (show addL 1 [] (ms.take (j + 1)) = addR 1 (addL 1 [] (ms.take j)) ms[j] from by rw [List.take_succ_eq_append_getElem K, addL_snoc])
              have HMM := Lib.hid (show addN 1 (ms.take (j + 1)) = addN 1 (ms.take j) + (if rightR 1 ms[j] = true then 1 else 0) from by rw [List.take_succ_eq_append_getElem K, addN_snoc])
              have hk1 : (addL 1 [] (ms.take j)).length ≤ j := by
                have := fill_len (ms.take j)
                rw [List.length_take] at this; omega
              have hk2 : addN 1 (ms.take j) ≤ j := by
                have : addN 1 (ms.take j) ≤ (ms.take j).length := List.countP_le_length
                rw [List.length_take] at this; omega
              generalize (ms[j]'K) = x at *
              generalize addL 1 [] (ms.take j) = L2 at *
              generalize addN 1 (ms.take j) = q at *
              have g0 : (0 : Int) ≤ (j : Int) := by omega
              have gj : (j : Int) < (n : Int) := by omega
              clear hR
              have R1 : Rcs _ _ 1 [x] := Rcs.new wr 34 [x] #[.string x.nm, .int .i64 x.st, .int .i64 x.ag.c, .int .i64 x.ag.hi, .int .u64 x.ag.lo, .int .i64 x.ag.mn, .int .i64 x.ag.mx] rfl (show 1 ≤ maxLen by decide) (fun r hr => by rw [List.mem_singleton.1 hr]; exact HXO.out)
              have hba := (Below.refl wr.heap.size wr).alloc (Nat.le_refl _) (.cells #[.string x.nm, .int .i64 x.st, .int .i64 x.ag.c, .int .i64 x.ag.hi, .int .u64 x.ag.lo, .int .i64 x.ag.mn, .int .i64 x.ag.mx] 34)
              have hsr := hbel.size
              go_wp2_with fail
              refine (addT_any _ (T2.below hba) R1 (by decide) (by omega)).mono ?_
              rintro e w7 ⟨rfl, T2', hg7⟩
              have T1' := (T1.below hba).grown hg7 (by simp; omega) (by simp; omega)
              have HM7 := Lib.hid ((HM.out.below hba).kept hg7 (fun k hk e => by have := HO3.out k hk; cases e; omega))
              have hbel7 := (hbel.alloc hbel.size (.cells #[.string x.nm, .int .i64 x.st, .int .i64 x.ag.c, .int .i64 x.ag.hi, .int .u64 x.ag.lo, .int .i64 x.ag.mn, .int .i64 x.ag.mx] 34)).grown hg7 (by simp; omega) (fun k hk => by cases hk; omega)
              have hq1 : addN 1 [x] ≤ 1 := by
                have : addN 1 [x] ≤ [x].length := List.countP_le_length
                simpa using this
              have HQ1 := Lib.hid (show addN 1 [x] = if rightR 1 x = true then 1 else 0 from by unfold addN; rw [List.countP_singleton])
              have HQ2 := Lib.hid (show addL 1 L2 [x] = addR 1 L2 x from rfl)
              rw [HQ2.out] at T2'
              generalize addN 1 [x] = q5 at *
              clear T1 T2 HM hbel hg7 R1 hba p0 p1 p2 p3 p4 p5 p6 HQ2
              go_wp2_with fail
              go_roundw
              case rel => exact ⟨j + 1, by omega, by go_num, by rw [HMM.out, ← HQ1.out]; go_num, T1', by rw [HN.out]; exact T2', HM7, hbel7⟩
              case measure => simp [intOf]; omega
end Go.Proofs.Ytdlmipoeeiaapaa
