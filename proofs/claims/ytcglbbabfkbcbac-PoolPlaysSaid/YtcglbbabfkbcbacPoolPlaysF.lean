/-
  PoolPlays: its walk (a draft).
-/
import Derived.Test.YtcglbbabfkbcbacPoolPlaysH
import Derived.Outline
import Derived.Deep.DeepCutAuto
import Derived.Deep.CutBlock
import Derived.Deep.RegionHeld3
namespace Go.Proofs.Ytcglbbabfkbcbac
open Go.RowKit Go.Maps

set_option maxRecDepth 100000 in
set_option maxHeartbeats 4000000 in
theorem plays_small (from_ n : Int) (zero : Bool) (A : Option Addr) (len cap : Nat) (os : List OpV) (w : World) (h : Ops w A len os) (hf : -9223372036854775808 ≤ from_ ∧ from_ ≤ 9223372036854775807) (hn : n ≤ 60) :
    Calls Try.prog 3 #[.int .i64 from_, .int .i64 n, .bool zero, .slice A len cap] w fun e w' => e = .returned (.bool true) ∧ Below w.heap.size w w' := by
  go_enter Try.func3, Try.ntmps3
  go_wp2_with fail
  refine (light_any A len cap os w h).mono ?_
  rintro e w1 ⟨b, rfl, hlight, hb1⟩
  cases b
  · clear hlight h
    go_wp2_with fail
    refine (alive_any _).mono ?_
    rintro e w2 ⟨rfl, hb2⟩
    go_wp2_with fail
    go_ret
    exact ⟨rfl, hb1.trans (hb2.mono hb1.size)⟩
  · have HLI := Lib.hid (hlight rfl)
    have HO := Lib.hid h
    clear hlight h
    go_wp2_with fail
    refine (new_any from_ n _ hf).mono ?_
    rintro e w2 ⟨g, m, f, k, rfl, hp, hb2, hg, hm, hfe, hke⟩
    have HFE := Lib.hid hfe
    have HKE := Lib.hid hke
    have hb12 := hb1.trans (hb2.mono hb1.size)
    have hgw := Nat.le_trans hb1.size hg
    have hmw := Nat.le_trans hb1.size hm
    have HP := Lib.hid hp
    have hw2 : w1.heap.size ≤ w2.heap.size := hb2.size
    clear hfe hke hg hm hp hb2
    obtain ⟨bz, hbz⟩ : ∃ bz, bz = decide (from_ < 0 ∨ 4096 < from_ ∨ n < 0) := ⟨_, rfl⟩
    have HB := Lib.hid hbz
    clear hbz
    go_upto_region 7 with fail
    go_cut [88] from 79 to 88 (fun s88 wx => s88 = .bool bz ∧ wx = w2)
    case first =>
      by_cases z1 : from_ < 0
      · go_wp2_with fail
        go_meet
        exact ⟨by rw [HB.out, decide_eq_true (.inl z1)], rfl⟩
      · by_cases z2 : 4096 < from_
        · go_wp2_with fail
          go_meet
          exact ⟨by rw [HB.out, decide_eq_true (.inr (.inl z2))], rfl⟩
        · go_wp2_with fail
          go_meet
          refine ⟨?_, rfl⟩
          have : decide (n < 0) = bz := by rw [HB.out]; exact decide_eq_decide.2 (by omega)
          rw [← this]
    case rest =>
      obtain ⟨rfl, hwx⟩ := hcut
      have hwx2 := hwx.symm
      clear hwx
      subst hwx2
      have H0 : Hid (∃ (F : Int) (N : Nat), (if bz then (0 : Int) else from_) = F ∧ (if bz then (0 : Int) else n) = (N : Int) ∧ (f = F ∨ N = 0) ∧ 0 ≤ F ∧ F ≤ 4096 ∧ N ≤ 60 ∧ k = (N : Int)) := Lib.hid (by
        have e1 := HFE.out
        have e2 := HKE.out
        have e3 := HB.out
        by_cases hz : from_ < 0 ∨ 4096 < from_ ∨ n < 0
        · rw [decide_eq_true hz] at e3
          rw [if_pos hz] at e2
          subst e3
          exact ⟨0, 0, rfl, rfl, .inr rfl, by omega, by omega, by omega, e2⟩
        · rw [decide_eq_false hz] at e3
          rw [if_neg hz] at e2
          subst e3
          exact ⟨from_, n.toNat, rfl, by simp; omega, .inl (by omega), by omega, by omega, by omega, by omega⟩)
      obtain ⟨F, N, hF, hN, hFf, hF0, hF1, hN60, hkN⟩ := H0.out
      rw [hkN] at HP
      have HFf := Lib.hid hFf
      clear H0 HFE HKE HB hkN hFf
      go_upto_if 88 with fail
      go_cut [0, 1] from 88 to 88 (fun s0 s1 wx => s0 = .int .i64 F ∧ s1 = .int .i64 (N : Int) ∧ wx = w2)
      case first =>
        cases bz
        · have hF' : from_ = F := hF
          have hN' : n = (N : Int) := hN
          clear hF hN
          subst hF' hN'
          go_wp2_with fail
          go_meet
          exact ⟨rfl, rfl, rfl⟩
        · have hF' : 0 = F := hF
          have hN' : (0 : Int) = (N : Int) := hN
          clear hF hN
          go_wp2_with fail
          go_meet
          exact ⟨by rw [← hF'], by rw [← hN'], rfl⟩
      case rest =>
        obtain ⟨rfl, rfl, hwx⟩ := hcut
        have hwx2 := hwx.symm
        clear hwx hF hN
        subst hwx2
        go_upto_if 89 with fail
        go_cut [0, 1, 10] from 89 to 91 (fun s0 s1 s10 wx => ∃ (F : Int) (N : Nat) (g : Nat) (om : Option Nat) (fp : Int), s0 = .int .i64 F ∧ s1 = .int .i64 (N : Int) ∧ s10 = .pointer (some ⟨g, 0, none⟩) ∧ PoolE wx g om fp N [] ∧ (fp = F ∨ N = 0) ∧ 0 ≤ F ∧ F ≤ 4096 ∧ N ≤ 60 ∧ w.heap.size ≤ g ∧ (∀ m, om = some m → w.heap.size ≤ m) ∧ Below w.heap.size w wx)
        case first =>
          cases zero
          · go_wp2_with fail
            go_meet
            exact ⟨F, N, g, some m, f, rfl, rfl, rfl, HP.out, HFf.out, hF0, hF1, hN60, hgw, fun m' e => by cases e; exact hmw, hb12⟩
          · go_wp2_with fail
            go_meet
            refine ⟨0, 0, w2.heap.size, none, 0, rfl, rfl, rfl, ?_, .inl rfl, by omega, by omega, by omega, hb12.size, fun m' e => (nomatch e), hb12.trans (((Below.refl w2.heap.size w2).alloc (Nat.le_refl _) _).mono hb12.size)⟩
            exact ⟨⟨[], _, heap_alloc_new w2 _⟩, rfl, rfl, rfl⟩
        case rest =>
          clear HP HFf hF0 hF1 hN60 hgw hmw hb1 hb12 hw2
          obtain ⟨F, N, g, om, fp, rfl, rfl, rfl, hp, hFf, hF0, hF1, hN60, hgw, hmw, hb⟩ := hcut
          have hmk := make_umarks F N hN60
          have HFf := Lib.hid hFf
          clear hFf
          go_upto_region 14 with fail
          go_wp2_with fail
          rw [show (.cells #[.slice none 0 0, .slice none 0 0, .slice none 0 0, .slice none 0 0, .slice none 0 0, .slice none 0 0, .slice none 0 0, .slice none 0 0, .slice none 0 0, .slice none 0 0, .slice none 0 0, .slice none 0 0, .slice none 0 0, .slice none 0 0, .slice none 0 0, .slice none 0 0] 42 : Obj) = .cells noFs 42 from rfl]
          obtain ⟨W, hW⟩ : ∃ W, W = (wc.alloc (.cells (umarks F N []) 4)).alloc (.cells noFs 42) := ⟨_, rfl⟩
          obtain ⟨S0, hBw⟩ := pys_start (f := F) hp hb hgw hmw hW
          rw [← hW]
          obtain ⟨B, hB⟩ : ∃ B, B = W.heap.size := ⟨_, rfl⟩
          rw [← hB] at S0 hBw
          obtain ⟨sb, hsb⟩ : ∃ sb, sb = wc.heap.size := ⟨_, rfl⟩
          rw [← hsb] at S0 ⊢
          obtain ⟨bk, hbk⟩ : ∃ bk, bk = sb + 1 := ⟨_, rfl⟩
          rw [← hbk] at S0 ⊢
          have HBW := Lib.hid hB
          clear hW hB hsb hbk hp hb hgw hmw hmk
          have HLEN := HO.out.len
          have hlen : len ≤ 60 := (HLI.out).1
          have hBW : B ≤ W.heap.size := by rw [HBW.out]; exact Nat.le_refl _
          obtain ⟨I1, HI1⟩ : ∃ I : Act → World → Prop, Hid (I = fun a' wr => ∃ (j g : Nat) (om : Option Nat) (us : List Int) (fs : Array Value) (ls : List (List Int)), Fr438 a' [(0, .int .i64 F), (1, .int .i64 (N : Int)), (3, .slice A len cap), (10, .pointer (some ⟨g, 0, none⟩)), (11, .slice (some ⟨sb, 0, none⟩) N N), (12, .pointer (some ⟨bk, 0, none⟩)), (13, .int .i64 (j : Int))] ∧ j ≤ len ∧ PyS w wr B g sb bk om fp N F N us us fs ∧ BkInts wr B fs ls ∧ Hid (KpS fs ls (2 * j)) ∧ B ≤ wr.heap.size) := ⟨_, Lib.hid rfl⟩
          refine wp_loop I1 (fun a' _ => len - (intOf (a'.tmps.toList.getD 13 undef)).toNat) ?_ ?_
          · rw [HI1.out]; exact ⟨0, g, om, [], noFs, [], ⟨rfl, rfl, rfl, rfl, rfl, rfl, rfl, rfl, rfl, trivial⟩, Nat.zero_le _, S0, bkInts_nil _ _, Lib.hid ⟨by simp, by simp, fun i h _ _ => noFs_at i h⟩, hBW⟩
          · clear S0
            intro a' wr hI
            rw [HI1.out] at hI
            obtain ⟨j, g, om, us, fs, ls, hfr, hj, S, HK, HKP, hBr⟩ := hI
            obtain ⟨u, rfl⟩ := fr_loop1 hfr
            clear hfr
            by_cases hlt : j < len
            · have K : j < os.length := by rw [HLEN]; exact hlt
              have hO := HO.out.below S.bel
              obtain ⟨b, off, rfl, hbl, x0, x1, x2⟩ := hO.cells K
              have HOK := Lib.hid (hO.ok _ (List.getElem_mem K))
              have HZ := Lib.hid (HO.out.ok _ (List.getElem_mem K)).ints
              have hol := HLI.out.2 _ (List.getElem_mem K)
              generalize os[j]'K = o at *
              clear hO
              go_upto_region 19 with fail
              have hal := (Below.refl wr.heap.size wr).alloc (Nat.le_refl _) (.cells #[.int .i64 o.kind, .int .i64 o.n, .slice o.A o.len o.cap] 45)
              have hbx : Bx (wr.alloc (.cells #[.int .i64 o.kind, .int .i64 o.n, .slice o.A o.len o.cap] 45)) wr.heap.size 45 (opCells o).toArray := Bx.new wr _ _
              obtain ⟨W1, hW1⟩ : ∃ W1, W1 = wr.alloc (.cells #[.int .i64 o.kind, .int .i64 o.n, .slice o.A o.len o.cap] 45) := ⟨_, rfl⟩
              rw [← hW1] at hal hbx ⊢
              obtain ⟨ob, hob⟩ : ∃ ob, ob = wr.heap.size := ⟨_, rfl⟩
              rw [← hob] at hbx ⊢
              have hB1 : B ≤ W1.heap.size := Nat.le_trans hBr hal.size
              have S1 := S.below hal
              have HK1 := HK.below hal
              have HZ1 := HZ.out.below S1.bel
              have q0 := hbx.at_ 0 (v := .int .i64 o.kind) rfl
              have q1 := hbx.at_ 1 (v := .int .i64 o.n) rfl
              have q2 := hbx.at_ 2 (v := .slice o.A o.len o.cap) rfl
              clear hal hW1 hob S HK x0 x1 x2 hbl hBr K
              go_wp2_with fail
              refine (lentInts_any o.A o.len o.cap o.zs W1 (by rw [flat_one]; exact HZ1.sl) HZ1.len (by omega)).mono ?_
              rintro e w3 ⟨mb, mcap, rfl, hm3, hb3⟩
              have R3 : RdS w w3 B g sb bk om fp N F N us us fs ls ob W1.heap.size mb mcap o := ⟨S1.below hb3, HK1.below hb3, hbx.below hb3, hm3, HZ.out⟩
              have hB3 : B ≤ w3.heap.size := Nat.le_trans hB1 hb3.size
              clear S1 HK1 HZ1 q0 q1 q2 hbx hm3 hb3
              go_wp2_with fail
              obtain ⟨I2, HI2⟩ : ∃ I : Act → World → Prop, Hid (I = fun a' wr => ∃ t : Nat, Fr438 a' [(0, .int .i64 F), (1, .int .i64 (N : Int)), (3, .slice (some ⟨b, off, none⟩) len cap), (10, .pointer (some ⟨g, 0, none⟩)), (11, .slice (some ⟨sb, 0, none⟩) N N), (12, .pointer (some ⟨bk, 0, none⟩)), (13, .int .i64 (j : Int)), (14, .pointer (some ⟨ob, 0, none⟩)), (15, .slice (some ⟨mb, 0, none⟩) o.len mcap), (16, .int .i64 (freeTo F us t : Int)), (17, .int .i64 (t : Int))] ∧ t ≤ N ∧ wr = w3) := ⟨_, Lib.hid rfl⟩
              refine wp_loop I2 (fun a' _ => N - (intOf (a'.tmps.toList.getD 17 undef)).toNat) ?_ ?_
              · rw [HI2.out]; exact ⟨0, ⟨rfl, rfl, rfl, rfl, rfl, rfl, rfl, rfl, rfl, rfl, rfl, rfl, rfl, trivial⟩, Nat.zero_le _, rfl⟩
              · intro a' wr2 hI
                rw [HI2.out] at hI
                obtain ⟨t, hfr, ht, hwr⟩ := hI
                have hwr' := hwr.symm
                clear hwr
                subst hwr'
                obtain ⟨u, rfl⟩ := fr_loop2 hfr
                clear hfr
                by_cases htl : t < N
                · have hcell := R3.p.cellN htl
                  have hfl := freeTo_le F us t
                  by_cases hin : F + (t : Int) ∈ us
                  · rw [decide_eq_true hin] at hcell
                    have HNX := Lib.hid (freeTo_in hin)
                    clear hin
                    go_wp2_with fail
                    exact ⟨by rw [HI2.out]; exact ⟨t + 1, ⟨rfl, rfl, rfl, rfl, rfl, rfl, rfl, rfl, rfl, rfl, rfl, by rw [HNX.out]; rfl, rfl, trivial⟩, by omega, by trivial⟩, show N - (t + 1) < N - t by omega⟩
                  · rw [decide_eq_false hin] at hcell
                    have HNX := Lib.hid (freeTo_out hin)
                    clear hin
                    go_wp2_with fail
                    exact ⟨by rw [HI2.out]; exact ⟨t + 1, ⟨rfl, rfl, rfl, rfl, rfl, rfl, rfl, rfl, rfl, rfl, rfl, by rw [HNX.out]; rfl, rfl, trivial⟩, by omega, by trivial⟩, show N - (t + 1) < N - t by omega⟩
                · have htN : N = t := by omega
                  subst htN
                  clear ht
                  have q0 := R3.ob_.at_ 0 (v := .int .i64 o.kind) rfl
                  have q1 := R3.ob_.at_ 1 (v := .int .i64 o.n) rfl
                  have q2 := R3.ob_.at_ 2 (v := .slice o.A o.len o.cap) rfl
                  have HRK := Lib.hid HKP.out
                  go_upto_block 4 with fail
                  obtain ⟨I3, HI3⟩ : ∃ I : Act → World → Prop, Hid (I = fun a' wc => ∃ (g : Nat) (om : Option Nat) (us : List Int) (fs : Array Value) (ls : List (List Int)), Fr438 a' [(0, .int .i64 F), (1, .int .i64 (N : Int)), (3, .slice (some ⟨b, off, none⟩) len cap), (10, .pointer (some ⟨g, 0, none⟩)), (11, .slice (some ⟨sb, 0, none⟩) N N), (12, .pointer (some ⟨bk, 0, none⟩)), (13, .int .i64 (j : Int)), (14, .pointer (some ⟨ob, 0, none⟩)), (15, .slice (some ⟨mb, 0, none⟩) o.len mcap)] ∧ RdS w wc B g sb bk om fp N F N us us fs ls ob W1.heap.size mb mcap o ∧ Hid (KpS fs ls (2 * j + 1)) ∧ B ≤ wc.heap.size) := ⟨_, Lib.hid rfl⟩
                  refine wp_cut I3 ?_ ?_
                  · intro a' w4 hR
                    rw [HI3.out] at hR
                    obtain ⟨g, om, us, fs, ls, hfr, R4, HKP, hB4⟩ := hR
                    obtain ⟨u, rfl⟩ := fr_sw hfr
                    clear hfr R3 hB3 q0 q1 q2 HRK
                    have HL4 := Lib.hid (R4.p.pool.law HFf.out)
                    have hul : us.length ≤ 60 := by have := HL4.out.len; omega
                    have HWF := Lib.hid (ints_wf hF0 hF1 hN60 HL4.out.ins)
                    obtain ⟨i0, hi, hz0, hz1, hz2⟩ := info_parts info_int
                    have HI0 := Lib.hid hi
                    have HZ0 := Lib.hid hz0
                    have HZ1 := Lib.hid hz1
                    have HZ2 := Lib.hid hz2
                    clear hi hz0 hz1 hz2
                    go_wp2_with fail
                    obtain ⟨I13, HI13⟩ : ∃ I : Act → World → Prop, Hid (I = fun a' wr => ∃ (t : Nat) (v : Value), Fr438 a' [(0, .int .i64 F), (1, .int .i64 (N : Int)), (3, .slice (some ⟨b, off, none⟩) len cap), (10, .pointer (some ⟨g, 0, none⟩)), (11, .slice (some ⟨sb, 0, none⟩) N N), (12, .pointer (some ⟨bk, 0, none⟩)), (13, .int .i64 (j : Int)), (14, .pointer (some ⟨ob, 0, none⟩)), (15, .slice (some ⟨mb, 0, none⟩) o.len mcap), (32, v), (33, .int .i64 (t : Int))] ∧ t ≤ N ∧ wr.ownsRow w4.heap.size 3 1 v (usedTo F us t).length ((usedTo F us t).map (Value.int .i64)) ∧ Below w4.heap.size w4 wr) := ⟨_, Lib.hid rfl⟩
                    refine wp_loop I13 (fun a' _ => N - (intOf (a'.tmps.toList.getD 33 undef)).toNat) ?_ ?_
                    · rw [HI13.out]; exact ⟨0, _, ⟨rfl, rfl, rfl, rfl, rfl, rfl, rfl, rfl, rfl, rfl, rfl, rfl, rfl, trivial⟩, Nat.zero_le _, World.ownsRow_nil _ _ _ _, Below.refl _ _⟩
                    · intro a' w5 hI
                      rw [HI13.out] at hI
                      obtain ⟨t, v, hfr, ht, hown, hbel⟩ := hI
                      obtain ⟨u, rfl⟩ := fr_l9 hfr
                      clear hfr
                      have R5 := R4.below hbel
                      by_cases htl : t < N
                      · have hcell := R5.p.cellN htl
                        by_cases hin : F + (t : Int) ∈ us
                        · rw [decide_eq_true hin] at hcell
                          have HNX := Lib.hid (usedTo_in hin)
                          have hut : (usedTo F us t).length ≤ t := by have := usedTo_len F us t; omega
                          clear hin
                          go_wp2_with (at_builtin; refine wpList_append_own _ rfl _ _ 43 rfl w4.heap.size 3 i0 (.int .i64 0) 1 8 Try.underlying43 HI0.out HZ0.out HZ1.out HZ2.out rfl (by decide) _ _ _ rfl (hown.alloc _) ⟨w5.heap.size, 0, none⟩ 1 1 [.int .i64 (F + t)] rfl rfl (cell_one_new _ _ _) (ints_oneCell _ [F + (t : Int)]) ?c3 ?c4 ?c5 ?_)
                          case c3 => unfold maxLen; omega
                          case c4 => omega
                          case c5 => have := hbel.size; simp; omega
                          intro v' w6 hown6 hgrow6 _
                          have hb6 := (hbel.alloc hbel.size _).grown hgrow6 (by have := hbel.size; simp; omega) (fun j hj => (hown.lt j hj).1)
                          have HO6 := Lib.hid hown6
                          clear hown6 hgrow6
                          go_wp2_with fail
                          exact ⟨by rw [HI13.out]; exact ⟨t + 1, _, ⟨rfl, rfl, rfl, rfl, rfl, rfl, rfl, rfl, rfl, rfl, rfl, rfl, rfl, trivial⟩, by omega, by rw [HNX.out]; simpa using HO6.out, hb6⟩, show N - (t + 1) < N - t by omega⟩
                        · rw [decide_eq_false hin] at hcell
                          have HNX := Lib.hid (usedTo_out hin)
                          clear hin
                          go_wp2_with fail
                          exact ⟨by rw [HI13.out]; exact ⟨t + 1, v, ⟨rfl, rfl, rfl, rfl, rfl, rfl, rfl, rfl, rfl, rfl, rfl, rfl, rfl, trivial⟩, by omega, by rw [HNX.out]; exact hown, hbel⟩, show N - (t + 1) < N - t by omega⟩
                      · have htN : N = t := by omega
                        subst htN
                        rw [usedTo_all HL4.out.rising HL4.out.ins] at hown
                        have hB5 : B ≤ w5.heap.size := Nat.le_trans hB4 hbel.size
                        clear ht htl R4 hbel hB4
                        go_wp2_with fail
                        refine R5.p.pool.used.mono ?_
                        rintro e w6 ⟨v6, rfl, hown6, hb6⟩
                        have R6 := R5.below hb6
                        have hB6 : B ≤ w6.heap.size := Nat.le_trans hB5 hb6.size
                        have hownA := bk_below hown hb6
                        have HA := Lib.hid (addInts_any bk B fs ls v6 us w5 w6 R5.bi hb6 R6.p.k (by rw [flat_one]; exact hown6) HWF.out (by have := HKP.out.few; omega) (by omega) hB5)
                        clear R5 hb6 hown
                        go_wp2_with fail
                        refine HA.out.mono ?_
                        rintro e w7 ⟨rfl, ⟨fs7, hk7, hi7, hf7⟩, hs7⟩
                        have X7 : RdX w w7 B g sb bk om fp N F N us fs7 (ls ++ [us]) ob W1.heap.size mb mcap o w5.heap.size w4.heap.size v6 v := ⟨R6.booked hs7 hk7 hi7 hBw, R6.row_booked hs7 hown6, R6.row_booked hs7 hownA, Nat.le_trans hB6 hs7.size⟩
                        have HK7 := Lib.hid (HKP.out.add (fs' := fs7) (l := us) (by omega) hf7)
                        clear HA hk7 hi7 hf7 hs7 hown6 hownA R6 hB6 hB5
                        obtain ⟨Au, cu, rfl, _⟩ := bk_sl X7.u
                        obtain ⟨Al, cl, rfl, _⟩ := bk_sl X7.a
                        have q1 := X7.r.ob_.at_ 1 (v := .int .i64 o.n) rfl
                        have honw := wf_bd HOK.out.n
                        go_upto_region 94 with fail
                        obtain ⟨I14, HI14⟩ : ∃ I : Act → World → Prop, Hid (I = fun a' wr => Fr438 a' [(0, .int .i64 F), (1, .int .i64 (N : Int)), (3, .slice (some ⟨b, off, none⟩) len cap), (10, .pointer (some ⟨g, 0, none⟩)), (11, .slice (some ⟨sb, 0, none⟩) N N), (12, .pointer (some ⟨bk, 0, none⟩)), (13, .int .i64 (j : Int)), (14, .pointer (some ⟨ob, 0, none⟩)), (15, .slice (some ⟨mb, 0, none⟩) o.len mcap), (32, .slice Al us.length cl), (34, .slice Au us.length cu), (35, .bool (decide (o.n ∈ us)))] ∧ wr = w7) := ⟨_, Lib.hid rfl⟩
                        refine wp_cut I14 ?_ ?_
                        rotate_left
                        · intro J9 K9 hJ9 hK9
                          by_cases z1 : o.n < F
                          · have HNI := Lib.hid (show decide (o.n ∈ us) = false from decide_eq_false (fun h => by have := HL4.out.ins _ h; omega))
                            go_wp2_with fail
                            exact Met.intro (hJ9 _ _ (by rw [HI14.out]; exact ⟨⟨rfl, rfl, rfl, rfl, rfl, rfl, rfl, rfl, rfl, rfl, rfl, rfl, rfl, by rw [HNI.out]; rfl, trivial⟩, rfl⟩))
                          · by_cases z2 : F + (N : Int) ≤ o.n
                            · have HNI := Lib.hid (show decide (o.n ∈ us) = false from decide_eq_false (fun h => by have := HL4.out.ins _ h; omega))
                              go_wp2_with fail
                              exact Met.intro (hJ9 _ _ (by rw [HI14.out]; exact ⟨⟨rfl, rfl, rfl, rfl, rfl, rfl, rfl, rfl, rfl, rfl, rfl, rfl, rfl, by rw [HNI.out]; rfl, trivial⟩, rfl⟩))
                            · have hcell := X7.r.p.cell (z := o.n) (by omega) (by omega)
                              have hmx : max (o.n - F) 0 = o.n - F := by omega
                              obtain ⟨du, hdu⟩ : ∃ du, du = decide (o.n ∈ us) := ⟨_, rfl⟩
                              rw [← hdu] at hcell
                              have HDU := Lib.hid hdu
                              clear hdu
                              go_wp2_with fail
                              exact Met.intro (hJ9 _ _ (by rw [HI14.out]; exact ⟨⟨rfl, rfl, rfl, rfl, rfl, rfl, rfl, rfl, rfl, rfl, rfl, rfl, rfl, by rw [← HDU.out]; rfl, trivial⟩, rfl⟩))
                        · intro a' wr14 hI
                          rw [HI14.out] at hI
                          obtain ⟨hfr, hwr⟩ := hI
                          have hwr' := hwr.symm
                          clear hwr q1
                          subst hwr'
                          obtain ⟨u, rfl⟩ := fr_c14 hfr
                          clear hfr
                          obtain ⟨du, hdu⟩ : ∃ du, du = decide (o.n ∈ us) := ⟨_, rfl⟩
                          have HSAME := Lib.hid (fun W (X : RdX w W B g sb bk om fp N F N us fs7 (ls ++ [us]) ob W1.heap.size mb mcap o w5.heap.size w4.heap.size (.slice Au us.length cu) (.slice Al us.length cl)) => X.same HWF.out hul)
                          have HFREE := Lib.hid (fun W (X : RdX w W B g sb bk om fp N F N us fs7 (ls ++ [us]) ob W1.heap.size mb mcap o w5.heap.size w4.heap.size (.slice Au us.length cu) (.slice Al us.length cl)) => X.free)
                          have HSIZE := Lib.hid (fun W (X : RdX w W B g sb bk om fp N F N us fs7 (ls ++ [us]) ob W1.heap.size mb mcap o w5.heap.size w4.heap.size (.slice Au us.length cu) (.slice Al us.length cl)) => X.size)
                          have HHAS := Lib.hid (fun W (X : RdX w W B g sb bk om fp N F N us fs7 (ls ++ [us]) ob W1.heap.size mb mcap o w5.heap.size w4.heap.size (.slice Au us.length cu) (.slice Al us.length cl)) => X.has HOK.out.n)
                          have HSTAY := Lib.hid (fun W (X : RdX w W B g sb bk om fp N F N us fs7 (ls ++ [us]) ob W1.heap.size mb mcap o w5.heap.size w4.heap.size (.slice Au us.length cu) (.slice Al us.length cl)) => X.stays hol)
                          rw [← hdu] at HHAS ⊢
                          have e1 : (((N : Int) - (us.length : Int)) != ((N : Int) - (us.length : Int))) = false := bne_self_eq_false _
                          have e2 : ((N : Int) != (N : Int)) = false := bne_self_eq_false _
                          have e3 : (du != du) = false := bne_self_eq_false _
                          clear hdu
                          go_wp2_with fail
                          refine (HSAME.out _ X7).mono ?_
                          rintro e wa ⟨rfl, hba⟩
                          have Xa := X7.below hba
                          clear X7 hba
                          go_wp2_with fail
                          refine (HFREE.out _ Xa).mono ?_
                          rintro e wb ⟨rfl, hbb⟩
                          have Xb := Xa.below hbb
                          clear Xa hbb
                          go_wp2_with fail
                          refine (HSIZE.out _ Xb).mono ?_
                          rintro e wd ⟨rfl, hbd⟩
                          have Xd := Xb.below hbd
                          have q1 := Xd.r.ob_.at_ 1 (v := .int .i64 o.n) rfl
                          clear Xb hbd
                          go_wp2_with fail
                          refine (HHAS.out _ Xd).mono ?_
                          rintro e we ⟨rfl, hbe⟩
                          have Xe := Xd.below hbe
                          clear q1 Xd hbe
                          have q2 := Xe.r.ob_.at_ 2 (v := .slice o.A o.len o.cap) rfl
                          go_wp2_with fail
                          refine (HSTAY.out _ Xe).mono ?_
                          rintro e wf ⟨rfl, hbf⟩
                          have Xf := Xe.below hbf
                          clear Xe q2 hbf
                          go_wp2_with fail
                          exact ⟨by rw [HI1.out]; exact ⟨j + 1, g, om, us, fs7, ls ++ [us], ⟨rfl, rfl, rfl, rfl, rfl, rfl, rfl, rfl, rfl, trivial⟩, by omega, Xf.r.p, Xf.r.bi, Lib.hid (HK7.out.more (by omega)), Xf.s⟩, show len - (j + 1) < len - j by omega⟩
                  · intro J K' hJ hK'
                    by_cases k1 : o.kind = 1
                    · have HL3 := Lib.hid (R3.p.pool.law HFf.out)
                      have hkw := wf_bd HOK.out.n
                      obtain ⟨T, E, r, hTE, hTr, hTin, hTl, hE⟩ := HL3.out.tells o.n
                      have HT4 := R3.p.pool.take o.n hkw
                      rw [hTE] at HT4
                      dsimp only at HT4
                      have HT4 := Lib.hid HT4
                      have HTR := Lib.hid hTr
                      have HTI := Lib.hid hTin
                      obtain ⟨lt, hlt0⟩ : ∃ lt, lt = T.length := ⟨_, rfl⟩
                      have HLT := Lib.hid hlt0
                      rw [← hlt0] at hTl hE
                      obtain ⟨ft, hft⟩ : ∃ ft, ft = freeTo F us N := ⟨_, rfl⟩
                      rw [← hft] at hE ⊢
                      clear hTE hTr hTin hlt0 hft
                      go_wp2_with fail
                      refine HT4.out.mono ?_
                      rintro e w4 ⟨v, rfl, hown, hp4, hg4⟩
                      rw [← HLT.out] at hown
                      obtain ⟨Aa, ca, rfl, hsl⟩ := bk_sl hown
                      have R4 := R3.turned hp4 hg4
                      have hB4 : B ≤ w4.heap.size := Nat.le_trans hB3 hg4.size
                      have HA := Lib.hid (addInts_any bk B fs ls (.slice Aa lt ca) T (cutAt w4 w3.heap.size) w4 (R3.bi.cutM hg4 R3.p.pool.mapless) (cutAt_below hg4.size) R4.p.k (by rw [cutAt_size hg4.size, flat_one, ← HLT.out]; exact hown) (ints_wf hF0 hF1 hN60 HTI.out) (by have := HRK.out.few; omega) (by rw [← HLT.out]; omega) (by rw [cutAt_size hg4.size]; exact hB3))
                      clear hsl hp4 hg4 HT4 q0 q1 q2 R3 hB3
                      go_wp2_with fail
                      refine HA.out.mono ?_
                      rintro e w5 ⟨rfl, ⟨fs5, hk5, hi5, hf5⟩, hs5⟩
                      have R5 := R4.booked hs5 hk5 hi5 hBw
                      have ho5 := R4.row_booked hs5 hown
                      have hB5 : B ≤ w5.heap.size := Nat.le_trans hB4 hs5.size
                      have HK5 := Lib.hid (HRK.out.add (fs' := fs5) (l := T) (by rw [← HLT.out]; omega) hf5)
                      clear HA hk5 hi5 hf5 hs5 hown R4 HRK
                      have q1 := R5.ob_.at_ 1 (v := .int .i64 o.n) rfl
                      go_upto_if 152 with fail
                      obtain ⟨I5, HI5⟩ : ∃ I : Act → World → Prop, Hid (I = fun a' wr => Fr438 a' [(0, .int .i64 F), (1, .int .i64 (N : Int)), (3, .slice (some ⟨b, off, none⟩) len cap), (10, .pointer (some ⟨g, 0, none⟩)), (11, .slice (some ⟨sb, 0, none⟩) N N), (12, .pointer (some ⟨bk, 0, none⟩)), (13, .int .i64 (j : Int)), (14, .pointer (some ⟨ob, 0, none⟩)), (15, .slice (some ⟨mb, 0, none⟩) o.len mcap), (18, .slice Aa lt ca), (19, .int .i64 E), (20, .int .i64 E)] ∧ wr = w5) := ⟨_, Lib.hid rfl⟩
                      refine wp_cut I5 ?_ ?_
                      rotate_left
                      · intro J5 K5 hJ5 hK5
                        rcases hE with ⟨h1, rfl, h3⟩ | ⟨h0, h1, rfl, h3⟩ | ⟨h0, h1, rfl, h3⟩
                        · go_wp2_with fail
                          exact Met.intro (hJ5 _ _ (by rw [HI5.out]; exact ⟨⟨rfl, rfl, rfl, rfl, rfl, rfl, rfl, rfl, rfl, rfl, rfl, rfl, rfl, rfl, trivial⟩, rfl⟩))
                        · go_wp2_with fail
                          exact Met.intro (hJ5 _ _ (by rw [HI5.out]; exact ⟨⟨rfl, rfl, rfl, rfl, rfl, rfl, rfl, rfl, rfl, rfl, rfl, rfl, rfl, rfl, trivial⟩, rfl⟩))
                        · go_wp2_with fail
                          exact Met.intro (hJ5 _ _ (by rw [HI5.out]; exact ⟨⟨rfl, rfl, rfl, rfl, rfl, rfl, rfl, rfl, rfl, rfl, rfl, rfl, rfl, rfl, trivial⟩, rfl⟩))
                      · intro a' wr5 hI
                        rw [HI5.out] at hI
                        obtain ⟨hfr, hwr⟩ := hI
                        have hwr' := hwr.symm
                        clear hwr
                        subst hwr'
                        obtain ⟨u, rfl⟩ := fr_c5 hfr
                        clear hfr
                        go_upto_region 42 with fail
                        obtain ⟨I6, HI6⟩ : ∃ I : Act → World → Prop, Hid (I = fun a' wr => Fr438 a' [(0, .int .i64 F), (1, .int .i64 (N : Int)), (3, .slice (some ⟨b, off, none⟩) len cap), (10, .pointer (some ⟨g, 0, none⟩)), (11, .slice (some ⟨sb, 0, none⟩) N N), (12, .pointer (some ⟨bk, 0, none⟩)), (13, .int .i64 (j : Int)), (14, .pointer (some ⟨ob, 0, none⟩)), (15, .slice (some ⟨mb, 0, none⟩) o.len mcap), (18, .slice Aa lt ca), (179, .bool false)] ∧ wr = w5) := ⟨_, Lib.hid rfl⟩
                        refine wp_cut I6 ?_ ?_
                        rotate_left
                        · intro J6 K6 hJ6 hK6
                          have e1 : (E != E) = false := bne_self_eq_false _
                          rcases hE with ⟨h1, rfl, h3⟩ | ⟨h0, h1, rfl, h3⟩ | ⟨h0, h1, rfl, h3⟩
                          · subst h3
                            go_wp2_with fail
                            exact Met.intro (hJ6 _ _ (by rw [HI6.out]; exact ⟨⟨rfl, rfl, rfl, rfl, rfl, rfl, rfl, rfl, rfl, rfl, rfl, rfl, rfl, trivial⟩, rfl⟩))
                          · subst h3
                            go_wp2_with fail
                            exact Met.intro (hJ6 _ _ (by rw [HI6.out]; exact ⟨⟨rfl, rfl, rfl, rfl, rfl, rfl, rfl, rfl, rfl, rfl, rfl, rfl, rfl, trivial⟩, rfl⟩))
                          · have e2 : ((lt : Int) != o.n) = false := by rw [h3]; exact bne_self_eq_false _
                            go_wp2_with fail
                            exact Met.intro (hJ6 _ _ (by rw [HI6.out]; exact ⟨⟨rfl, rfl, rfl, rfl, rfl, rfl, rfl, rfl, rfl, rfl, rfl, rfl, rfl, trivial⟩, rfl⟩))
                        · intro a' wr6 hI
                          rw [HI6.out] at hI
                          obtain ⟨hfr, hwr⟩ := hI
                          have hwr' := hwr.symm
                          clear hwr hE
                          subst hwr'
                          obtain ⟨u, rfl⟩ := fr_c6 hfr
                          clear hfr q1
                          go_wp2_with fail
                          obtain ⟨I7, HI7⟩ : ∃ I : Act → World → Prop, Hid (I = fun a' wr => ∃ t : Nat, Fr438 a' [(0, .int .i64 F), (1, .int .i64 (N : Int)), (3, .slice (some ⟨b, off, none⟩) len cap), (10, .pointer (some ⟨g, 0, none⟩)), (11, .slice (some ⟨sb, 0, none⟩) N N), (12, .pointer (some ⟨bk, 0, none⟩)), (13, .int .i64 (j : Int)), (14, .pointer (some ⟨ob, 0, none⟩)), (15, .slice (some ⟨mb, 0, none⟩) o.len mcap), (18, .slice Aa lt ca), (21, .int .i64 ((freeIn F us t).length : Int)), (22, .int .i64 (t : Int))] ∧ t ≤ N ∧ (freeIn F us t).length ≤ lt ∧ RdS w wr B g sb bk om fp N F N (insAll us T) (insAll us (T.take (freeIn F us t).length)) fs5 (ls ++ [T]) ob W1.heap.size mb mcap o ∧ wr.ownsRow w3.heap.size 3 1 (.slice Aa lt ca) lt (T.map (Value.int .i64)) ∧ B ≤ wr.heap.size) := ⟨_, Lib.hid rfl⟩
                          refine wp_loop I7 (fun a' _ => N - (intOf (a'.tmps.toList.getD 22 undef)).toNat) ?_ ?_
                          · rw [HI7.out]; exact ⟨0, ⟨rfl, rfl, rfl, rfl, rfl, rfl, rfl, rfl, rfl, rfl, rfl, rfl, rfl, rfl, trivial⟩, Nat.zero_le _, Nat.zero_le _, R5, ho5, hB5⟩
                          · intro a' wr7 hI
                            rw [HI7.out] at hI
                            obtain ⟨t, hfr, ht, hat, R, ho, hBr⟩ := hI
                            obtain ⟨u, rfl⟩ := fr_l3 hfr
                            clear hfr R5 ho5 hB5
                            by_cases htl : t < N
                            · by_cases hal : (freeIn F us t).length < lt
                              · have hatT : (freeIn F us t).length < ((freeIn F us N).take r).length := by rw [← HTR.out, ← HLT.out]; exact hal
                                have HTA := Lib.hid (take_at htl hatT)
                                have hcell := R.p.cellN htl
                                have hfro := R.p.free t
                                have hmem := take_mem (k := t) (us := us) (f := F) (n := N) (q := r) (by omega) (by omega)
                                rw [← HTR.out] at hmem
                                rw [hmem] at hcell
                                by_cases hin : F + (t : Int) ∈ us
                                · rw [decide_eq_true hin] at hcell
                                  have HNX := Lib.hid (HTA.out.1 hin)
                                  clear hin hmem
                                  go_wp2_with fail
                                  exact ⟨by rw [HI7.out]; exact ⟨t + 1, ⟨rfl, rfl, rfl, rfl, rfl, rfl, rfl, rfl, rfl, rfl, rfl, rfl, by rw [HNX.out]; rfl, rfl, trivial⟩, by omega, by rw [HNX.out]; exact hat, by rw [HNX.out]; exact R, ho, hBr⟩, show N - (t + 1) < N - t by omega⟩
                                · rw [decide_eq_false hin] at hcell
                                  obtain ⟨hn1, hn2, hn3⟩ := HTA.out.2 hin
                                  have hTt : (freeIn F us t).length < T.length := by rw [← HLT.out]; exact hal
                                  obtain ⟨ab, ao, hAa, hab, hac⟩ := row_ints ho hTt
                                  have hge : T[(freeIn F us t).length]'hTt = F + (t : Int) := by rw [← hn2]; congr 1
                                  rw [hge] at hac
                                  rw [← HTR.out] at hn3
                                  have HM := R.marked (z := F + (t : Int)) (b := true) (umarks_put F N (insAll us (T.take (freeIn F us t).length)) (F + (t : Int)) (by omega))
                                  rw [show (F + (t : Int) - F).toNat = t by omega, ← hn3, ← hn1] at HM
                                  have HM := Lib.hid HM
                                  have HOm := Lib.hid (R.row_marked (i := t) (u := .bool true) ho)
                                  have HN1 := Lib.hid hn1
                                  have e3 : ((F + (t : Int)) != (F + (t : Int))) = false := bne_self_eq_false _
                                  subst hAa
                                  clear hin hmem hn1 hn2 hn3 hge
                                  go_wp2_with fail
                                  exact ⟨by rw [HI7.out]; exact ⟨t + 1, ⟨rfl, rfl, rfl, rfl, rfl, rfl, rfl, rfl, rfl, rfl, rfl, rfl, by rw [HN1.out]; rfl, rfl, trivial⟩, by omega, by rw [HN1.out]; omega, HM.out, HOm.out, by rw [World.size_setCell]; exact hBr⟩, show N - (t + 1) < N - t by omega⟩
                              · have hae : (freeIn F us t).length = lt := by omega
                                have HTE := take_end (F := F) (us := us) (N := N) (t := t) (r := r) (.inr (by rw [← HTR.out, ← HLT.out]; omega)) ht
                                rw [← HTR.out] at HTE
                                rw [HTE] at R
                                clear HTE
                                go_wp2_with fail
                                exact Met.intro (hJ _ _ (by rw [HI3.out]; exact ⟨g, om, _, fs5, _, ⟨rfl, rfl, rfl, rfl, rfl, rfl, rfl, rfl, rfl, rfl, rfl, trivial⟩, R, HK5, hBr⟩))
                            · have HTE := take_end (F := F) (us := us) (N := N) (t := t) (r := r) (.inl (by omega)) ht
                              rw [← HTR.out] at HTE
                              rw [HTE] at R
                              clear HTE
                              go_wp2_with fail
                              exact Met.intro (hJ _ _ (by rw [HI3.out]; exact ⟨g, om, _, fs5, _, ⟨rfl, rfl, rfl, rfl, rfl, rfl, rfl, rfl, rfl, rfl, rfl, trivial⟩, R, HK5, hBr⟩))
                    · by_cases k2 : o.kind = 2
                      · have HL3 := Lib.hid (R3.p.pool.law HFf.out)
                        have hWB := Nat.le_trans hBw (Nat.le_refl B)
                        go_wp2_with fail
                        obtain ⟨I4, HI4⟩ : ∃ I : Act → World → Prop, Hid (I = fun a' wr => ∃ (t : Nat), Fr438 a' [(0, .int .i64 F), (1, .int .i64 (N : Int)), (3, .slice (some ⟨b, off, none⟩) len cap), (10, .pointer (some ⟨g, 0, none⟩)), (11, .slice (some ⟨sb, 0, none⟩) N N), (12, .pointer (some ⟨bk, 0, none⟩)), (13, .int .i64 (j : Int)), (14, .pointer (some ⟨ob, 0, none⟩)), (15, .slice (some ⟨mb, 0, none⟩) o.len mcap), (23, .int .i64 (giveAll us (o.zs.take t)).2), (24, .int .i64 (t : Int))] ∧ t ≤ o.len ∧ RdS w wr B g sb bk om fp N F N us (giveAll us (o.zs.take t)).1 fs ls ob W1.heap.size mb mcap o ∧ B ≤ wr.heap.size) := ⟨_, Lib.hid rfl⟩
                        refine wp_loop I4 (fun a' _ => o.len - (intOf (a'.tmps.toList.getD 24 undef)).toNat) ?_ ?_
                        · rw [HI4.out]; exact ⟨0, ⟨rfl, rfl, rfl, rfl, rfl, rfl, rfl, rfl, rfl, rfl, rfl, rfl, rfl, trivial⟩, Nat.zero_le _, R3, hB3⟩
                        · intro a' wr3 hI
                          rw [HI4.out] at hI
                          obtain ⟨t, hfr, ht, R, hBr⟩ := hI
                          obtain ⟨u, rfl⟩ := fr_l4 hfr
                          clear hfr R3 q0 q1 q2
                          have q2 := R.ob_.at_ 2 (v := .slice o.A o.len o.cap) rfl
                          by_cases htl : t < o.len
                          · have K : t < o.zs.length := by rw [R.z.len]; exact htl
                            obtain ⟨zb, zo, hA, hzb, hcz⟩ := R.ints.get K
                            have hzw := wf_bd (R.z.wf _ (List.getElem_mem K))
                            have HG := Lib.hid (give_at (us := us) K)
                            have hgf := give_few us o.zs t
                            generalize o.zs[t]'K = z at *
                            rw [hA] at q2
                            by_cases z1 : z < F
                            · have HNX := Lib.hid (HG.out.2 (fun hz => by have := HL3.out.ins _ (give_sub us _ _ hz); omega))
                              go_wp2_with fail
                              exact ⟨by rw [HI4.out]; exact ⟨t + 1, ⟨rfl, rfl, rfl, rfl, rfl, rfl, rfl, rfl, rfl, rfl, rfl, by rw [HNX.out]; rfl, rfl, trivial⟩, by omega, by rw [HNX.out]; exact R, hBr⟩, show o.len - (t + 1) < o.len - t by omega⟩
                            · by_cases z2 : F + (N : Int) ≤ z
                              · have HNX := Lib.hid (HG.out.2 (fun hz => by have := HL3.out.ins _ (give_sub us _ _ hz); omega))
                                go_wp2_with fail
                                exact ⟨by rw [HI4.out]; exact ⟨t + 1, ⟨rfl, rfl, rfl, rfl, rfl, rfl, rfl, rfl, rfl, rfl, rfl, by rw [HNX.out]; rfl, rfl, trivial⟩, by omega, by rw [HNX.out]; exact R, hBr⟩, show o.len - (t + 1) < o.len - t by omega⟩
                              · have hcell := R.p.cell (z := z) (by omega) (by omega)
                                have hfro := R.p.free (z - F).toNat
                                by_cases hin : z ∈ (giveAll us (o.zs.take t)).1
                                · rw [decide_eq_true hin] at hcell
                                  have HNX := Lib.hid (HG.out.1 hin)
                                  have HM := Lib.hid (R.marked (b := false) (umarks_del F N _ z (by omega)))
                                  clear hin
                                  go_wp2_with fail
                                  exact ⟨by rw [HI4.out]; exact ⟨t + 1, ⟨rfl, rfl, rfl, rfl, rfl, rfl, rfl, rfl, rfl, rfl, rfl, by rw [HNX.out]; rfl, rfl, trivial⟩, by omega, by rw [HNX.out]; exact HM.out, by rw [World.size_setCell]; exact hBr⟩, show o.len - (t + 1) < o.len - t by omega⟩
                                · rw [decide_eq_false hin] at hcell
                                  have HNX := Lib.hid (HG.out.2 hin)
                                  clear hin
                                  go_wp2_with fail
                                  exact ⟨by rw [HI4.out]; exact ⟨t + 1, ⟨rfl, rfl, rfl, rfl, rfl, rfl, rfl, rfl, rfl, rfl, rfl, by rw [HNX.out]; rfl, rfl, trivial⟩, by omega, by rw [HNX.out]; exact R, hBr⟩, show o.len - (t + 1) < o.len - t by omega⟩
                          · have htN : t = o.len := by omega
                            have HTA := Lib.hid (show o.zs.take t = o.zs from by rw [htN, ← R.z.len]; exact List.take_length)
                            rw [HTA.out] at R ⊢
                            go_wp2_with fail
                            refine (R.p.pool.give (R.lent hol) mcap).mono ?_
                            rintro e w5 ⟨rfl, hp5, hg5⟩
                            have R5 := R.turned hp5 hg5
                            have hB5 : B ≤ w5.heap.size := Nat.le_trans hBr hg5.size
                            go_wp2_with fail
                            exact Met.intro (hJ _ _ (by rw [HI3.out]; exact ⟨g, om, _, fs, ls, ⟨rfl, rfl, rfl, rfl, rfl, rfl, rfl, rfl, rfl, rfl, rfl, trivial⟩, R5, Lib.hid (HRK.out.more (by omega)), hB5⟩))
                      · by_cases k3 : o.kind = 3
                        · have HL3 := Lib.hid (R3.p.pool.law HFf.out)
                          go_wp2_with fail
                          obtain ⟨I8, HI8⟩ : ∃ I : Act → World → Prop, Hid (I = fun a' wr => ∃ t : Nat, Fr438 a' [(0, .int .i64 F), (1, .int .i64 (N : Int)), (3, .slice (some ⟨b, off, none⟩) len cap), (10, .pointer (some ⟨g, 0, none⟩)), (11, .slice (some ⟨sb, 0, none⟩) N N), (12, .pointer (some ⟨bk, 0, none⟩)), (13, .int .i64 (j : Int)), (14, .pointer (some ⟨ob, 0, none⟩)), (15, .slice (some ⟨mb, 0, none⟩) o.len mcap), (25, .int .i64 (rngErr F N (o.zs.take t))), (26, .int .i64 (t : Int))] ∧ t ≤ o.len ∧ wr = w3) := ⟨_, Lib.hid rfl⟩
                          refine wp_loop I8 (fun a' _ => o.len - (intOf (a'.tmps.toList.getD 26 undef)).toNat) ?_ ?_
                          · rw [HI8.out]; exact ⟨0, ⟨rfl, rfl, rfl, rfl, rfl, rfl, rfl, rfl, rfl, rfl, rfl, by rw [rng_zero]; rfl, rfl, trivial⟩, Nat.zero_le _, rfl⟩
                          · intro a' wr8 hI
                            rw [HI8.out] at hI
                            obtain ⟨t, hfr, ht, hwr⟩ := hI
                            have hwr' := hwr.symm
                            clear hwr
                            subst hwr'
                            obtain ⟨u, rfl⟩ := fr_l5 hfr
                            clear hfr
                            by_cases htl : t < o.len
                            · have K : t < o.zs.length := by rw [R3.z.len]; exact htl
                              obtain ⟨zb, zo, hA, hzb, hcz⟩ := R3.ints.get K
                              have hzw := wf_bd (R3.z.wf _ (List.getElem_mem K))
                              have HG := Lib.hid (rng_at (F := F) (N := N) K)
                              generalize o.zs[t]'K = z at *
                              rw [hA] at q2
                              by_cases z1 : z < F
                              · have HNX := Lib.hid (HG.out.2 (by omega))
                                go_wp2_with fail
                                exact ⟨by rw [HI8.out]; exact ⟨t + 1, ⟨rfl, rfl, rfl, rfl, rfl, rfl, rfl, rfl, rfl, rfl, rfl, by rw [HNX.out]; rfl, rfl, trivial⟩, by omega, rfl⟩, show o.len - (t + 1) < o.len - t by omega⟩
                              · by_cases z2 : F + (N : Int) ≤ z
                                · have HNX := Lib.hid (HG.out.2 (by omega))
                                  go_wp2_with fail
                                  exact ⟨by rw [HI8.out]; exact ⟨t + 1, ⟨rfl, rfl, rfl, rfl, rfl, rfl, rfl, rfl, rfl, rfl, rfl, by rw [HNX.out]; rfl, rfl, trivial⟩, by omega, rfl⟩, show o.len - (t + 1) < o.len - t by omega⟩
                                · have HNX := Lib.hid (HG.out.1 (by omega))
                                  go_wp2_with fail
                                  exact ⟨by rw [HI8.out]; exact ⟨t + 1, ⟨rfl, rfl, rfl, rfl, rfl, rfl, rfl, rfl, rfl, rfl, rfl, by rw [HNX.out]; rfl, rfl, trivial⟩, by omega, rfl⟩, show o.len - (t + 1) < o.len - t by omega⟩
                            · have htN : t = o.len := by omega
                              have HTA := Lib.hid (show o.zs.take t = o.zs from by rw [htN, ← R3.z.len]; exact List.take_length)
                              rw [HTA.out]
                              clear HTA
                              go_upto_block 11 with fail
                              obtain ⟨I9, HI9⟩ : ∃ I : Act → World → Prop, Hid (I = fun a' wr => Fr438 a' [(0, .int .i64 F), (1, .int .i64 (N : Int)), (3, .slice (some ⟨b, off, none⟩) len cap), (10, .pointer (some ⟨g, 0, none⟩)), (11, .slice (some ⟨sb, 0, none⟩) N N), (12, .pointer (some ⟨bk, 0, none⟩)), (13, .int .i64 (j : Int)), (14, .pointer (some ⟨ob, 0, none⟩)), (15, .slice (some ⟨mb, 0, none⟩) o.len mcap), (25, .int .i64 (markErr F N us o.zs))] ∧ RdS w wr B g sb bk om fp N F N us us fs ls ob W1.heap.size mb mcap o ∧ B ≤ wr.heap.size) := ⟨_, Lib.hid rfl⟩
                              refine wp_cut I9 ?_ ?_
                              rotate_left
                              · intro J9 K9 hJ9 hK9
                                go_wp2_with fail
                                obtain ⟨I10, HI10⟩ : ∃ I : Act → World → Prop, Hid (I = fun a' wr => ∃ (t : Nat) (X : Int), Fr438 a' [(0, .int .i64 F), (1, .int .i64 (N : Int)), (3, .slice (some ⟨b, off, none⟩) len cap), (10, .pointer (some ⟨g, 0, none⟩)), (11, .slice (some ⟨sb, 0, none⟩) N N), (12, .pointer (some ⟨bk, 0, none⟩)), (13, .int .i64 (j : Int)), (14, .pointer (some ⟨ob, 0, none⟩)), (15, .slice (some ⟨mb, 0, none⟩) o.len mcap), (25, .int .i64 X), (27, .int .i64 (t : Int))] ∧ t ≤ o.len ∧ MkS F N us o.zs t X ∧ RdS w wr B g sb bk om fp N F N us us fs ls ob W1.heap.size mb mcap o ∧ B ≤ wr.heap.size) := ⟨_, Lib.hid rfl⟩
                                refine wp_loop I10 (fun a' _ => o.len - (intOf (a'.tmps.toList.getD 27 undef)).toNat) ?_ ?_
                                · rw [HI10.out]; exact ⟨0, _, ⟨rfl, rfl, rfl, rfl, rfl, rfl, rfl, rfl, rfl, rfl, rfl, rfl, rfl, trivial⟩, Nat.zero_le _, mks_start _ _ _ _, R3, hB3⟩
                                · intro a' wr10 hI
                                  rw [HI10.out] at hI
                                  clear htN ht htl
                                  clear R3 hB3 q0 q1 q2
                                  obtain ⟨t, X, hfr, ht, hM, R3, hB3⟩ := hI
                                  have q2 := R3.ob_.at_ 2 (v := .slice o.A o.len o.cap) rfl
                                  obtain ⟨u, rfl⟩ := fr_l6 hfr
                                  clear hfr
                                  by_cases htl : t < o.len
                                  · by_cases hX : X = 0
                                    · subst hX
                                      have K : t < o.zs.length := by rw [R3.z.len]; exact htl
                                      obtain ⟨zb, zo, hA, hzb, hcs⟩ := ints_cells R3.ints (by omega)
                                      have hcz := hcs t K
                                      have hzw := wf_bd (R3.z.wf _ (List.getElem_mem K))
                                      obtain ⟨hz12, hm9, hm0⟩ := mks_next hM K
                                      have HM9 := Lib.hid hm9
                                      have HM0 := Lib.hid hm0
                                      have HSN := Lib.hid (fun (i : Nat) (hi : i < o.zs.length) => seen_next (z := o.zs[t]'K) hi)
                                      clear hm9 hm0 hcs hM
                                      obtain ⟨z, hzt⟩ : ∃ z, o.zs[t]'K = z := ⟨_, rfl⟩
                                      rw [hzt] at hcz hzw hz12 HM9 HM0 HSN
                                      have HZT := Lib.hid hzt
                                      clear hzt
                                      obtain ⟨z1, z2⟩ := hz12
                                      have hcell := R3.p.cell (z := z) z1 z2
                                      rw [hA] at q2
                                      obtain ⟨du, hdu⟩ : ∃ du, du = decide (z ∈ us) := ⟨_, rfl⟩
                                      rw [← hdu] at hcell HM9 HM0
                                      have HDU := Lib.hid hdu
                                      clear hdu
                                      go_wp2_with fail
                                      obtain ⟨I11, HI11⟩ : ∃ I : Act → World → Prop, Hid (I = fun a' wr => ∃ i : Nat, Fr438 a' [(0, .int .i64 F), (1, .int .i64 (N : Int)), (3, .slice (some ⟨b, off, none⟩) len cap), (10, .pointer (some ⟨g, 0, none⟩)), (11, .slice (some ⟨sb, 0, none⟩) N N), (12, .pointer (some ⟨bk, 0, none⟩)), (13, .int .i64 (j : Int)), (14, .pointer (some ⟨ob, 0, none⟩)), (15, .slice (some ⟨mb, 0, none⟩) o.len mcap), (25, .int .i64 0), (27, .int .i64 (t : Int)), (28, .bool (du || seenTo z o.zs i)), (29, .int .i64 (i : Int))] ∧ i ≤ t ∧ RdS w wr B g sb bk om fp N F N us us fs ls ob W1.heap.size mb mcap o ∧ B ≤ wr.heap.size) := ⟨_, Lib.hid rfl⟩
                                      refine wp_loop I11 (fun a' _ => t - (intOf (a'.tmps.toList.getD 29 undef)).toNat) ?_ ?_
                                      · rw [HI11.out]; exact ⟨0, ⟨rfl, rfl, rfl, rfl, rfl, rfl, rfl, rfl, rfl, rfl, rfl, rfl, rfl, by rw [seen_zero, Bool.or_false]; rfl, rfl, trivial⟩, Nat.zero_le _, R3, hB3⟩
                                      · intro a' wr11 hI
                                        rw [HI11.out] at hI
                                        clear R3 hB3 q2 hcell hcz
                                        obtain ⟨i, hfr, hi, R3, hB3⟩ := hI
                                        have q2 := R3.ob_.at_ 2 (v := .slice o.A o.len o.cap) rfl
                                        rw [hA] at q2
                                        obtain ⟨zb', zo', hA', hzb', hcs'⟩ := ints_cells R3.ints (by omega)
                                        rw [hA] at hA'
                                        cases hA'
                                        have HCS := Lib.hid hcs'
                                        have hcz := hcs' t K
                                        rw [HZT.out] at hcz
                                        clear hcs'
                                        obtain ⟨u, rfl⟩ := fr_l7 hfr
                                        clear hfr
                                        by_cases hit : i < t
                                        · have KI : i < o.zs.length := by omega
                                          have hci := HCS.out i KI
                                          have hiw := wf_bd (R3.z.wf _ (List.getElem_mem KI))
                                          have HSI := Lib.hid (HSN.out i KI)
                                          generalize o.zs[i]'KI = y at *
                                          obtain ⟨tw, htw⟩ : ∃ tw, tw = (du || seenTo z o.zs i) := ⟨_, rfl⟩
                                          rw [← htw]
                                          have HTW := Lib.hid htw
                                          clear htw
                                          cases tw
                                          · by_cases hyz : y = z
                                            · have HNX := Lib.hid (show (du || seenTo z o.zs (i + 1)) = true from by rw [HSI.out, decide_eq_true hyz, Bool.or_true, Bool.or_true])
                                              have hd : (y == z) = true := beq_iff_eq.2 hyz
                                              clear hyz
                                              go_upto_region 77 with fail
                                              go_quiet (fail)
                                              go_wp2_with fail
                                              exact ⟨by rw [HI11.out]; exact ⟨i + 1, ⟨rfl, rfl, rfl, rfl, rfl, rfl, rfl, rfl, rfl, rfl, rfl, rfl, rfl, by rw [HNX.out]; rfl, rfl, trivial⟩, by omega, R3.below (below_drewN (Below.refl _ _) _), hB3⟩, show t - (i + 1) < t - i by omega⟩
                                            · have HNX := Lib.hid (show (du || seenTo z o.zs (i + 1)) = false from by rw [HSI.out, decide_eq_false hyz, Bool.or_false, ← HTW.out])
                                              have hd : (y == z) = false := beq_eq_false_iff_ne.2 hyz
                                              clear hyz
                                              go_upto_region 77 with fail
                                              go_quiet (fail)
                                              go_wp2_with fail
                                              exact ⟨by rw [HI11.out]; exact ⟨i + 1, ⟨rfl, rfl, rfl, rfl, rfl, rfl, rfl, rfl, rfl, rfl, rfl, rfl, rfl, by rw [HNX.out]; rfl, rfl, trivial⟩, by omega, R3.below (below_drewN (Below.refl _ _) _), hB3⟩, show t - (i + 1) < t - i by omega⟩
                                          · have HNX := Lib.hid (show (du || seenTo z o.zs (i + 1)) = true from by rw [HSI.out, ← Bool.or_assoc, ← HTW.out, Bool.true_or])
                                            go_upto_region 77 with fail
                                            go_quiet (fail)
                                            go_wp2_with fail
                                            exact ⟨by rw [HI11.out]; exact ⟨i + 1, ⟨rfl, rfl, rfl, rfl, rfl, rfl, rfl, rfl, rfl, rfl, rfl, rfl, rfl, by rw [HNX.out]; rfl, rfl, trivial⟩, by omega, R3.below (below_drewN (Below.refl _ _) _), hB3⟩, show t - (i + 1) < t - i by omega⟩
                                        · have hie : t = i := by omega
                                          subst hie
                                          obtain ⟨tw, htw⟩ : ∃ tw, tw = (du || seenTo z o.zs t) := ⟨_, rfl⟩
                                          rw [← htw] at HM9 HM0 ⊢
                                          clear htw
                                          cases tw
                                          · go_wp2_with fail
                                            exact ⟨by rw [HI10.out]; exact ⟨t + 1, 0, ⟨rfl, rfl, rfl, rfl, rfl, rfl, rfl, rfl, rfl, rfl, rfl, rfl, rfl, trivial⟩, by omega, HM0.out (by trivial), R3, hB3⟩, show o.len - (t + 1) < o.len - t by omega⟩
                                          · go_wp2_with fail
                                            exact ⟨by rw [HI10.out]; exact ⟨t + 1, 9, ⟨rfl, rfl, rfl, rfl, rfl, rfl, rfl, rfl, rfl, rfl, rfl, rfl, rfl, trivial⟩, by omega, HM9.out (by trivial), R3, hB3⟩, show o.len - (t + 1) < o.len - t by omega⟩
                                    · have hE := mks_end hM (fun e => absurd e hX)
                                      have HE := Lib.hid hE.1
                                      clear hE hM
                                      go_wp2_with fail
                                      exact Met.intro (hJ9 _ _ (by rw [HI9.out]; exact ⟨⟨rfl, rfl, rfl, rfl, rfl, rfl, rfl, rfl, rfl, rfl, rfl, by rw [← HE.out]; rfl, trivial⟩, R3, hB3⟩))
                                  · have hE := mks_end hM (fun _ => by rw [R3.z.len]; omega)
                                    have HE := Lib.hid hE.1
                                    clear hE hM
                                    go_wp2_with fail
                                    exact Met.intro (hJ9 _ _ (by rw [HI9.out]; exact ⟨⟨rfl, rfl, rfl, rfl, rfl, rfl, rfl, rfl, rfl, rfl, rfl, by rw [← HE.out]; rfl, trivial⟩, R3, hB3⟩))
                              · intro a' wr9 hI
                                rw [HI9.out] at hI
                                clear htN ht htl R3 hB3 q0 q1 q2
                                obtain ⟨hfr, R3, hB3⟩ := hI
                                obtain ⟨u, rfl⟩ := fr_c7 hfr
                                clear hfr
                                have HMK := R3.p.pool.mark (R3.lent hol) mcap
                                rw [(HL3.out.mark o.zs).1, (HL3.out.mark o.zs).2] at HMK
                                obtain ⟨hx0, hx1, hx2⟩ := mark_tells F N us o.zs
                                generalize markErr F N us o.zs = X at *
                                have HMK := Lib.hid HMK
                                go_wp2_with fail
                                refine HMK.out.mono ?_
                                rintro e w5 ⟨rfl, hp5, hg5⟩
                                have R5 := R3.turned hp5 hg5
                                have hB5 : B ≤ w5.heap.size := Nat.le_trans hB3 hg5.size
                                have e1 : (X != X) = false := bne_self_eq_false _
                                clear hp5 hg5 R3 HMK
                                have q2 := R5.ob_.at_ 2 (v := .slice o.A o.len o.cap) rfl
                                by_cases hX : X = 0
                                · subst hX
                                  obtain ⟨hin, hto⟩ := hx1 rfl
                                  rw [hto] at R5
                                  have HIN := Lib.hid hin
                                  clear hin hto hx0 hx1 hx2
                                  go_wp2_with fail
                                  obtain ⟨I12, HI12⟩ : ∃ I : Act → World → Prop, Hid (I = fun a' wr => ∃ t : Nat, Fr438 a' [(0, .int .i64 F), (1, .int .i64 (N : Int)), (3, .slice (some ⟨b, off, none⟩) len cap), (10, .pointer (some ⟨g, 0, none⟩)), (11, .slice (some ⟨sb, 0, none⟩) N N), (12, .pointer (some ⟨bk, 0, none⟩)), (13, .int .i64 (j : Int)), (14, .pointer (some ⟨ob, 0, none⟩)), (15, .slice (some ⟨mb, 0, none⟩) o.len mcap), (25, .int .i64 0), (30, .int .i64 (t : Int))] ∧ t ≤ o.len ∧ RdS w wr B g sb bk om fp N F N (insAll us o.zs) (insAll us (o.zs.take t)) fs ls ob W1.heap.size mb mcap o ∧ B ≤ wr.heap.size) := ⟨_, Lib.hid rfl⟩
                                  refine wp_loop I12 (fun a' _ => o.len - (intOf (a'.tmps.toList.getD 30 undef)).toNat) ?_ ?_
                                  · rw [HI12.out]; exact ⟨0, ⟨rfl, rfl, rfl, rfl, rfl, rfl, rfl, rfl, rfl, rfl, rfl, rfl, rfl, trivial⟩, Nat.zero_le _, by rw [List.take_zero]; exact R5, hB5⟩
                                  · intro a' wr12 hI
                                    rw [HI12.out] at hI
                                    obtain ⟨t, hfr, ht, R, hBr⟩ := hI
                                    obtain ⟨u, rfl⟩ := fr_l8 hfr
                                    clear hfr R5 q2 hB5
                                    have q2 := R.ob_.at_ 2 (v := .slice o.A o.len o.cap) rfl
                                    by_cases htl : t < o.len
                                    · have K : t < o.zs.length := by rw [R.z.len]; exact htl
                                      obtain ⟨zb, zo, hA, hzb, hcz⟩ := R.ints.get K
                                      have hzw := wf_bd (R.z.wf _ (List.getElem_mem K))
                                      have HG := Lib.hid (insAll_at (us := us) K)
                                      obtain ⟨z1, z2⟩ := HIN.out _ (List.getElem_mem K)
                                      generalize o.zs[t]'K = z at *
                                      rw [hA] at q2
                                      have hcell := R.p.cell z1 z2
                                      have hfro := R.p.free (z - F).toNat
                                      have HM := R.marked (b := true) (umarks_put F N (insAll us (o.zs.take t)) z z1)
                                      rw [← HG.out] at HM
                                      have HM := Lib.hid HM
                                      go_wp2_with fail
                                      exact ⟨by rw [HI12.out]; exact ⟨t + 1, ⟨rfl, rfl, rfl, rfl, rfl, rfl, rfl, rfl, rfl, rfl, rfl, rfl, rfl, trivial⟩, by omega, HM.out, by rw [World.size_setCell]; exact hBr⟩, show o.len - (t + 1) < o.len - t by omega⟩
                                    · have htN : t = o.len := by omega
                                      have HTA := Lib.hid (show o.zs.take t = o.zs from by rw [htN, ← R.z.len]; exact List.take_length)
                                      rw [HTA.out] at R
                                      clear HTA
                                      go_wp2_with fail
                                      exact Met.intro (hJ _ _ (by rw [HI3.out]; exact ⟨g, om, _, fs, ls, ⟨rfl, rfl, rfl, rfl, rfl, rfl, rfl, rfl, rfl, rfl, rfl, trivial⟩, R, Lib.hid (HRK.out.more (by omega)), hBr⟩))
                                · rw [hx2 hX] at R5
                                  clear hx0 hx1 hx2
                                  go_wp2_with fail
                                  obtain ⟨I12, HI12⟩ : ∃ I : Act → World → Prop, Hid (I = fun a' wr => Fr438 a' [(0, .int .i64 F), (1, .int .i64 (N : Int)), (3, .slice (some ⟨b, off, none⟩) len cap), (10, .pointer (some ⟨g, 0, none⟩)), (11, .slice (some ⟨sb, 0, none⟩) N N), (12, .pointer (some ⟨bk, 0, none⟩)), (13, .int .i64 (j : Int)), (14, .pointer (some ⟨ob, 0, none⟩)), (15, .slice (some ⟨mb, 0, none⟩) o.len mcap), (25, .int .i64 X), (30, .int .i64 0)] ∧ wr = w5) := ⟨_, Lib.hid rfl⟩
                                  refine wp_loop I12 (fun a' _ => 0) ?_ ?_
                                  · rw [HI12.out]; exact ⟨⟨rfl, rfl, rfl, rfl, rfl, rfl, rfl, rfl, rfl, rfl, rfl, rfl, rfl, trivial⟩, rfl⟩
                                  · intro a' wr12 hI
                                    rw [HI12.out] at hI
                                    obtain ⟨hfr, hwr⟩ := hI
                                    have hwr' := hwr.symm
                                    clear hwr
                                    subst hwr'
                                    obtain ⟨u, rfl⟩ := fr_l8 hfr
                                    clear hfr
                                    by_cases htl : 0 < o.len
                                    · go_wp2_with fail
                                      exact Met.intro (hJ _ _ (by rw [HI3.out]; exact ⟨g, om, _, fs, ls, ⟨rfl, rfl, rfl, rfl, rfl, rfl, rfl, rfl, rfl, rfl, rfl, trivial⟩, R5, Lib.hid (HRK.out.more (by omega)), hB5⟩))
                                    · go_wp2_with fail
                                      exact Met.intro (hJ _ _ (by rw [HI3.out]; exact ⟨g, om, _, fs, ls, ⟨rfl, rfl, rfl, rfl, rfl, rfl, rfl, rfl, rfl, rfl, rfl, trivial⟩, R5, Lib.hid (HRK.out.more (by omega)), hB5⟩))
                        · go_wp2_with fail
                          refine R3.p.pool.copy.mono ?_
                          rintro e w4 ⟨g2, om2, rfl, hp4, hty, hb4, hg2, hm2⟩
                          have R4 := R3.below hb4
                          have R4c := R3.instead hb4 hp4 hty hg2 hm2
                          have hml := R3.p.pool.mlt
                          have hB4 : B ≤ w4.heap.size := Nat.le_trans hB3 hb4.size
                          have hne : om = none ∨ om ≠ om2 := by
                            cases om with
                            | none => exact .inl rfl
                            | some m => exact .inr fun e => by have := hml m rfl; have := hm2 m e.symm; omega
                          have hne2 : om2 = none ∨ om2 ≠ om := by
                            cases om2 with
                            | none => exact .inl rfl
                            | some m => exact .inr fun e => by have := hml m e.symm; have := hm2 m rfl; omega
                          have HNE := Lib.hid hne
                          have HNE2 := Lib.hid hne2
                          have q1 := R4.ob_.at_ 1 (v := .int .i64 o.n) rfl
                          clear R3 q0 q2 hp4 hty hb4 hg2 hm2 hml hB3 hne hne2
                          go_wp2_with fail
                          · refine (R4.p.pool.take 1 (by omega)).mono ?_
                            rintro e w5 ⟨v, rfl, _, _, hg5⟩
                            have R5 := R4c.other R4.p.pool hg5 HNE2.out R4.p.hm
                            have hB5 : B ≤ w5.heap.size := Nat.le_trans hB4 hg5.size
                            go_wp2_with fail
                            exact Met.intro (hJ _ _ (by rw [HI3.out]; exact ⟨g2, om2, _, fs, ls, ⟨rfl, rfl, rfl, rfl, rfl, rfl, rfl, rfl, rfl, rfl, rfl, trivial⟩, R5, Lib.hid (HRK.out.more (by omega)), hB5⟩))
                          · refine (R4c.p.pool.take 1 (by omega)).mono ?_
                            rintro e w5 ⟨v, rfl, _, _, hg5⟩
                            have R5 := R4.other R4c.p.pool hg5 HNE.out R4c.p.hm
                            have hB5 : B ≤ w5.heap.size := Nat.le_trans hB4 hg5.size
                            go_wp2_with fail
                            exact Met.intro (hJ _ _ (by rw [HI3.out]; exact ⟨g, om, _, fs, ls, ⟨rfl, rfl, rfl, rfl, rfl, rfl, rfl, rfl, rfl, rfl, rfl, trivial⟩, R5, Lib.hid (HRK.out.more (by omega)), hB5⟩))
            · have hje : len = j := by omega
              subst hje
              go_wp2_with fail
              refine (alive_any _).mono ?_
              rintro e wa ⟨rfl, hba⟩
              have HAP := Lib.hid (apartInts_any bk B fs ls wa (S.k.below hba) (HK.below hba) (by have := HKP.out.few; omega) HKP.out.long (Nat.le_trans hBr hba.size) HKP.out.nil)
              have hb9 := S.bel.trans (hba.mono S.bel.size)
              go_wp2_with fail
              refine HAP.out.mono ?_
              rintro e wb ⟨rfl, hbb⟩
              go_wp2_with fail
              go_ret
              exact ⟨rfl, hb9.trans (hbb.mono hBw)⟩
end Go.Proofs.Ytcglbbabfkbcbac
