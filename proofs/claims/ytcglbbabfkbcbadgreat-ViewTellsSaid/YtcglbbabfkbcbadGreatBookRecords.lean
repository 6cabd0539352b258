/-
  sedimentbook at Records: the marks, Same, still, put, grow, marked, copy, one list more. (gen_book.py prints this.)
-/
import Derived.Test.YtcglbbabfkbcbadGreatBook
import Derived.Test.YtcglbbabfkbcbadGreatM6
import Derived.Test.YtcglbbabfkbcbadGreatM7
import Derived.Test.YtcglbbabfkbcbadGreatM9
import Derived.Test.YtcglbbabfkbcbadGreatM4
import Derived.Deep.OwnShut
import Derived.Deep.QuietTactic
import Derived.Deep.RegionHeld3
import Derived.StillTailTactics
import Derived.BigQuiet
import Derived.IntWalk
import Derived.WalkSpells
import Derived.WalkLawsBesides
import Derived.Lib.Hide
import Derived.Outline
import Derived.Deep.Cut
namespace Go.Proofs.YtcglbbabfkbcbadGreat
open Go.RowKit Go.Deep


def mkRecords (i k : Nat) : Rc := ⟨ByteArray.empty, -1000 * (i : Int) - (k : Int) - 1, Ag.zero⟩
theorem infoLRecords : (Tryz.prog.info? 49).map (fun i => (i.zero, i.size, i.bytes)) = some (some (.slice none 0 0), 1, 24) := by kernel_rfl
theorem viewRecords {w : World} {A : Option Addr} {n : Nat} {l : List Rc} (h : Sl w A (l.flatMap Rc.cells)) (hl : l.length = n) (hn : n ≤ 200000) (hok : ∀ t ∈ l, t.Ok) : Rcs w A n l := ⟨h, hl, by unfold maxLen; omega, fun r hr => (hok r hr).nm, fun r hr => (hok r hr).st, fun r hr => (hok r hr).ag.ok⟩
theorem mkRecords_ok {i k : Nat} (hi : i ≤ 250) (hk : k ≤ 200000) : (mkRecords i k).Ok := ⟨by show ByteArray.empty.size ≤ maxLen; decide, wf_i64' (by show (-9223372036854775808 : Int) ≤ -1000 * (i : Int) - (k : Int) - 1 ∧ -1000 * (i : Int) - (k : Int) - 1 ≤ 9223372036854775807; omega), Ag.Fit.zero⟩
theorem marksRecords_ok {i f n : Nat} (hi : i ≤ 250) (hn : f + n ≤ 200000) : ∀ t ∈ marks mkRecords i f n, t.Ok := by
  intro t ht
  obtain ⟨j, _, h2, rfl⟩ := marks_mem _ _ _ _ _ ht
  exact mkRecords_ok hi (by omega)
/-- The book's lists of this kind. -/
structure BkRecords (w : World) (B : Nat) (fs : Array Value) (ls : List (List Rc)) : Prop where
  ex : ∃ vX vs vW ws, fs[4]? = some vX ∧ fs[5]? = some vW ∧ w.ownsRow B 49 1 vX ls.length vs ∧ w.ownsRow B 49 1 vW ls.length ws ∧ (vX.ownBlock = none ∨ vX.ownBlock ≠ vW.ownBlock) ∧ Kept Rc.cells 61 7 w B vs ls ∧ Kept Rc.cells 61 7 w B ws ls
  ok : ∀ l ∈ ls, ∀ t ∈ l, t.Ok
theorem BkRecords.below {w w' : World} {B : Nat} {fs : Array Value} {ls : List (List Rc)} (h : BkRecords w B fs ls) (hb : Below w.heap.size w w') : BkRecords w' B fs ls := by
  obtain ⟨vX, vs, vW, ws, e1, e2, r1, r2, hap, k1, k2⟩ := h.ex
  exact ⟨⟨vX, vs, vW, ws, e1, e2, bk_below r1 hb, bk_below r2 hb, hap, k1.below hb, k2.below hb⟩, h.ok⟩

set_option maxRecDepth 100000 in
set_option maxHeartbeats 2000000 in
theorem markRecords_any (i f n : Nat) (w : World) (hi : i ≤ 250) (hn : f + n ≤ 200000) :
    Calls Tryz.prog 100 #[.int .i64 i, .int .i64 f, .int .i64 n] w fun e w' => ∃ v, e = .returned v ∧ w'.ownsRow w.heap.size 61 7 v n ((marks mkRecords i f n).flatMap Rc.cells) ∧ Below w.heap.size w w' := by
  obtain ⟨i0, hi0, hz0, hz1, hz2⟩ := info_parts info_rec
  have HI := Lib.hid hi0
  have HI0 := Lib.hid hz0
  have HI1 := Lib.hid hz1
  have HI2 := Lib.hid hz2
  clear hi0 hz0 hz1 hz2
  go_enter Tryz.func100, Tryz.ntmps100
  go_wp2_with fail
  go_loopw [7, 8] (fun v q wr => ∃ j : Nat, j ≤ n ∧ q = .int .i64 ((f : Int) + (j : Int)) ∧ wr.ownsRow w.heap.size 61 7 v j ((marks mkRecords i f j).flatMap Rc.cells) ∧ Below w.heap.size w wr) (fun _ q _ => f + n - (intOf q).toNat)
  case atStart => exact ⟨0, Nat.zero_le _, by simp, World.ownsRow_nil _ _ _ _, Below.refl _ _⟩
  case round =>
    obtain ⟨j, hj, rfl, hrw, hbr⟩ := hrel
    have g0 : (0 : Int) ≤ (f : Int) + (j : Int) := by omega
    by_cases hlt : j < n
    · have g1 : decide ((f : Int) + (j : Int) < (f : Int) + (n : Int)) = true := decide_eq_true (by omega)
      have HMK := Lib.hid (show Rc.cells (mkRecords i (f + j)) = [.string ⟨#[]⟩, .int .i64 (-1000 * (i : Int) - ((f : Int) + (j : Int)) - 1), .int .i64 0, .int .i64 0, .int .u64 0, .int .i64 0, .int .i64 0] from by simp [mkRecords, Rc.cells]; exact ⟨rfl, rfl⟩)
      obtain ⟨cs, hcs⟩ : ∃ cs : List Value, cs = [.string ⟨#[]⟩, .int .i64 (-1000 * (i : Int) - ((f : Int) + (j : Int)) - 1), .int .i64 0, .int .i64 0, .int .u64 0, .int .i64 0, .int .i64 0] := ⟨_, rfl⟩
      have hba := (Below.refl wr.heap.size wr).alloc (Nat.le_refl _) (.cells cs.toArray 61)
      have HRW := Lib.hid (bk_below hrw hba)
      have HSL := Lib.hid (Sl.new wr 61 wr.heap.size cs cs.toArray rfl rfl)
      have HON := Lib.hid (show ∀ u ∈ cs, u.oneCell' = true from fun u hu => rows_oneCell [mkRecords i (f + j)] u (by rw [List.flatMap_singleton, HMK.out, ← hcs]; exact hu))
      have HCL := Lib.hid (show cs.length = 1 * 7 from by rw [hcs]; rfl)
      have HLT := Lib.hid hrw.lt
      subst hcs
      clear hrw
      go_wp2_with (at_builtin; refine wpList_append_sl _ rfl _ _ 49 rfl w.heap.size 61 i0 _ 7 64 Tryz.underlying49 HI.out HI0.out HI1.out HI2.out rfl (by decide) u7 j _ rfl HRW.out (some ⟨wr.heap.size, 0, none⟩) 1 1 _ rfl HCL.out HSL.out HON.out ?c4 ?c5 ?c6 ?_; (unfold maxLen; omega); (omega); (have := hbr.size; simp; omega); intro v' w4 hown4 hg4 _)
      have hbr4 := (hbr.trans (hba.mono hbr.size)).grown hg4 (by have := hbr.size; simp; omega) (fun q hq => (HLT.out q hq).1)
      go_roundw
      case rel => exact ⟨j + 1, by omega, by go_num, by rw [marks_succ, List.flatMap_append, List.flatMap_singleton, HMK.out]; exact hown4, hbr4⟩
      case measure => simp [intOf]; omega
    · have g1 : decide ((f : Int) + (j : Int) < (f : Int) + (n : Int)) = false := decide_eq_false (by omega)
      have hje : j = n := by omega
      subst hje
      go_wp2_with fail
      go_ret
      exact ⟨_, rfl, hrw, hbr⟩

set_option maxRecDepth 100000 in
set_option maxHeartbeats 2000000 in
theorem likeRecords_any (A B : Option Addr) (n c d : Nat) (l : List Rc) (w : World) (hA : Rcs w A n l) (hB : Rcs w B n l) : Calls Tryz.prog 14 #[.slice A n c, .slice B n d] w fun e w' => e = .returned (.bool true) ∧ ∃ q, w' = w.drewN q := by
  have hn := hA.n_le
  have HL := Lib.hid hA.len
  unfold maxLen at hn
  go_enter Tryz.func14, Tryz.ntmps14
  go_wp2
  obtain ⟨w6, hw6⟩ : ∃ w6, w6 = w := ⟨_, rfl⟩
  subst hw6
  go_loopw [5] (fun i wr => ∃ j : Nat, j ≤ n ∧ i = .int .i64 j ∧ Below w6.heap.size w6 wr ∧ Hid (∃ q, wr = w6.drewN q)) (fun i _ => n - (intOf i).toNat)
  case atStart => exact ⟨0, Nat.zero_le _, rfl, Below.refl _ _, Lib.hid ⟨0, rfl⟩⟩
  case round =>
    obtain ⟨j, hj, rfl, hbel, HQ⟩ := hrel
    by_cases hlt : j < n
    · have K : j < l.length := by rw [HL.out]; exact hlt
      obtain ⟨b, off, rfl, hb, X⟩ := (hA.below hbel).get K
      obtain ⟨r0, r1, r2, r3, r4, r5, r6⟩ := X
      obtain ⟨b2, off2, rfl, hb2, Y⟩ := (hB.below hbel).get K
      obtain ⟨s0, s1, s2, s3, s4, s5, s6⟩ := Y
      generalize l[j]'K = x at *
      have g0 : (0 : Int) ≤ (j : Int) := by omega
      have g1 : (j : Int) < (n : Int) := by omega
      go_wp2
      go_quiet (fail)
      go_wp2
      go_roundw
      case rel => exact ⟨j + 1, by omega, by go_num, below_drewN hbel _, Lib.hid (by obtain ⟨q, hq⟩ := HQ.out; exact ⟨q + nq, by rw [hq, World.drewN_drewN]⟩)⟩
      case measure => simp [intOf]; omega
    · have hd : decide ((j : Int) < (n : Int)) = false := decide_eq_false (by omega)
      go_wp2
      go_ret
      exact ⟨rfl, HQ.out⟩

set_option maxRecDepth 100000 in
set_option maxHeartbeats 2000000 in
theorem stillRecords_any (g B : Nat) (fs : Array Value) (ls : List (List Rc)) (w : World) (hB : Bx w g 44 fs) (h : BkRecords w B fs ls) (hn : ls.length ≤ 250) :
    Calls Tryz.prog 43 #[.pointer (some ⟨g, 0, none⟩)] w fun e w' => e = .returned (.bool true) ∧ ∃ q, w' = w.drewN q := by
  obtain ⟨vX, vs, vW, ws, e1, e2, r1, r2, _, k1, k2⟩ := h.ex
  have HOK := Lib.hid h.ok
  obtain ⟨A1, c1, rfl, _⟩ := bk_sl r1
  obtain ⟨A2, c2, rfl, _⟩ := bk_sl r2
  clear h
  obtain ⟨n, hn0⟩ : ∃ n, n = ls.length := ⟨_, rfl⟩
  rw [← hn0] at e1 e2 r1 r2 hn
  have HN := Lib.hid hn0
  clear hn0
  have x0 := hB.at_ 4 e1
  have x1 := hB.at_ 5 e2
  go_enter Tryz.func43, Tryz.ntmps43
  go_wp2
  obtain ⟨w6, hw6⟩ : ∃ w6, w6 = w := ⟨_, rfl⟩
  subst hw6
  go_loopw [3] (fun i wr => ∃ j : Nat, j ≤ n ∧ i = .int .i64 j ∧ Below w6.heap.size w6 wr ∧ Hid (∃ q, wr = w6.drewN q)) (fun i _ => n - (intOf i).toNat)
  case atStart => exact ⟨0, Nat.zero_le _, rfl, Below.refl _ _, Lib.hid ⟨0, rfl⟩⟩
  case round =>
    obtain ⟨j, hj, rfl, hbel, HQ⟩ := hrel
    have x0 := (hB.below hbel).at_ 4 e1
    have x1 := (hB.below hbel).at_ 5 e2
    by_cases hlt : j < n
    · obtain ⟨b1, l, A3, c3, rfl, hb1, hl1, y1, _, S1, hfew⟩ := bk_get (bk_below r1 hbel) (k1.below hbel) hlt
      obtain ⟨b2, l2, A4, c4, rfl, hb2, hl2, y2, _, S2, _⟩ := bk_get (bk_below r2 hbel) (k2.below hbel) hlt
      obtain rfl : l = l2 := by rw [hl1] at hl2; injection hl2
      have HS := Lib.hid (fun q => likeRecords_any A3 A4 l.length c3 c4 l (wr.drewN q) (viewRecords (S1.below (below_drewN (Below.refl _ _) q)) rfl (by omega) (HOK.out l (List.mem_of_getElem? hl1))) (viewRecords (S2.below (below_drewN (Below.refl _ _) q)) rfl (by omega) (HOK.out l (List.mem_of_getElem? hl1))))
      have g0 : (0 : Int) ≤ (j : Int) := by omega
      have g1 : (j : Int) < (n : Int) := by omega
      clear S1 S2 hl1 hl2
      go_wp2
      go_quiet ((go_at_call 14; exact Calls.quiet_of (HS.out _)))
      go_wp2
      go_roundw
      case rel => exact ⟨j + 1, by omega, by go_num, below_drewN hbel _, Lib.hid (by obtain ⟨q, hq⟩ := HQ.out; exact ⟨q + nq, by rw [hq, World.drewN_drewN]⟩)⟩
      case measure => simp [intOf]; omega
    · have hd : decide ((j : Int) < (n : Int)) = false := decide_eq_false (by omega)
      go_wp2
      go_ret
      exact ⟨rfl, HQ.out⟩

set_option maxRecDepth 100000 in
set_option maxHeartbeats 4000000 in
theorem markedRecords_any (v : Value) (n B B' : Nat) (vs : List Value) (ls : List (List Rc)) (w : World) (r : w.ownsRow B 49 1 v n vs) (K : Kept Rc.cells 61 7 w B' vs ls) (hn : n ≤ 250) (hm : ∀ i l, ls[i]? = some l → l = marks mkRecords i 0 l.length) :
    Calls Tryz.prog 67 #[v] w fun e w' => e = .returned (.bool true) ∧ Below w.heap.size w w' := by
  obtain ⟨A, c, rfl, _⟩ := bk_sl r
  have HM := Lib.hid hm
  clear hm
  go_enter Tryz.func67, Tryz.ntmps67
  go_wp2
  obtain ⟨w6, hw6⟩ : ∃ w6, w6 = w := ⟨_, rfl⟩
  subst hw6
  go_loopw [3] (fun i wr => ∃ j : Nat, j ≤ n ∧ i = .int .i64 j ∧ Below w6.heap.size w6 wr) (fun i _ => n - (intOf i).toNat)
  case atStart => exact ⟨0, Nat.zero_le _, rfl, Below.refl _ _⟩
  case round =>
    obtain ⟨j, hj, rfl, hbel⟩ := hrel
    by_cases hlt : j < n
    · obtain ⟨b1, l, A3, c3, rfl, hb1, hl1, y1, _, S1, hfew⟩ := bk_get (bk_below r hbel) (K.below hbel) hlt
      have hlm := HM.out j l hl1
      obtain ⟨m, hm⟩ : ∃ m, l.length = m := ⟨_, rfl⟩
      rw [hm] at hlm hfew y1
      have HLM := Lib.hid hlm
      have HMM := Lib.hid hm
      have HV := Lib.hid (show ∀ w', Below wr.heap.size wr w' → Rcs w' A3 m l from fun w' hb => viewRecords (S1.below hb) hm (by omega) (by rw [hlm]; exact marksRecords_ok (by omega) (by omega)))
      have HMA := Lib.hid (fun W => markRecords_any j 0 m W (by omega) (by omega))
      have HK := Lib.hid (show ∀ w', Below wr.heap.size wr w' → w'.cell? ⟨b1, j, none⟩ = some (.slice A3 m c3) from fun w' hb => (hb.cell (p := ⟨b1, j, none⟩) hb1).trans y1)
      have hbD := (Below.refl wr.heap.size wr).drew
      have HK0 := And.intro hbD (HK.out _ hbD)
      have g0 : (0 : Int) ≤ (j : Int) := by omega
      have g1 : (j : Int) < (n : Int) := by omega
      clear S1 hl1 hlm hm
      go_upto_region 4 with fail
      go_region_held3 (fun w' => Below wr.heap.size wr w' ∧ w'.cell? ⟨b1, j, none⟩ = some (.slice A3 m c3))
        (first
          | assumption
          | exact HK0
          | (go_split_ands; exact And.intro (by assumption) (HK.out _ (by assumption)))
          | (go_split_ands; exact And.intro (Below.trans (by assumption) (Below.mono hb7 (Below.size (by assumption)))) (HK.out _ (Below.trans (by assumption) (Below.mono hb7 (Below.size (by assumption))))))
          | (go_split_ands; exact And.intro (Below.trans (by assumption) (Below.mono hb8 (Below.size (by assumption)))) (HK.out _ (Below.trans (by assumption) (Below.mono hb8 (Below.size (by assumption)))))))
        (first
          | (go_at_call 100; go_split_ands; refine (HMA.out _).mono ?_; rintro e w7 ⟨v7, rfl, ho7, hb7⟩; obtain ⟨A7, c7, rfl, hs7⟩ := bk_sl ho7
             have HV7 := Lib.hid (show Rcs w7 A7 m l from viewRecords (by rw [HLM.out]; exact hs7) HMM.out (by omega) (by rw [HLM.out]; exact marksRecords_ok (by omega) (by omega)))
             clear ho7 hs7)
          | (go_at_call 14; go_split_ands; refine (likeRecords_any A3 A7 m c3 c7 l _ (HV.out _ (by assumption)) HV7.out).mono ?_; rintro e w8 ⟨rfl, q8, hq8⟩
             have hb8 := below_drewN (Below.refl w7.heap.size w7) q8
             rw [← hq8] at hb8
             clear hq8))
      go_split_ands
      have hbz : Below wr.heap.size wr w8 := by assumption
      go_wp2
      go_roundw
      case rel => exact ⟨j + 1, by omega, by go_num, hbel.trans (hbz.mono hbel.size)⟩
      case measure => simp [intOf]; omega
    · have hd : decide ((j : Int) < (n : Int)) = false := decide_eq_false (by omega)
      go_wp2
      go_ret
      exact ⟨rfl, hbel⟩

set_option maxRecDepth 100000 in
set_option maxHeartbeats 4000000 in
theorem putRecords_any (g B : Nat) (fs : Array Value) (vX : Value) (n : Nat) (vs : List Value) (ls : List (List Rc)) (w : World) (hB : Bx w g 44 fs) (e1 : fs[4]? = some vX) (r : w.ownsRow B 49 1 vX n vs) (K : Kept Rc.cells 61 7 w B vs ls) (hn : n ≤ 250) :
    Calls Tryz.prog 52 #[.pointer (some ⟨g, 0, none⟩)] w fun e w' => e = .returned (.tuple #[]) ∧ Spares B 61 w w' ∧ Kept Rc.cells 61 7 w' B vs (marksAll mkRecords 0 ls) := by
  obtain ⟨A, c, rfl, _⟩ := bk_sl r
  have x0 := hB.at_ 4 e1
  have HNL := Lib.hid (show ls.length = n from by rw [← K.len]; have := r.1; omega)
  go_enter Tryz.func52, Tryz.ntmps52
  go_wp2
  obtain ⟨w6, hw6⟩ : ∃ w6, w6 = w := ⟨_, rfl⟩
  subst hw6
  go_loopw [2, 3, 4] (fun i _ _ wr => ∃ j : Nat, j ≤ n ∧ i = .int .i64 j ∧ Spares B 61 w6 wr ∧ Kept Rc.cells 61 7 wr B vs (marksTo mkRecords 0 j ls)) (fun i _ _ _ => n - (intOf i).toNat)
  case atStart => exact ⟨0, Nat.zero_le _, rfl, Spares.refl _ _ _, by rw [marksTo_zero]; exact K⟩
  case round =>
    obtain ⟨j, hj, rfl, hsp, hK⟩ := hrel
    obtain ⟨w9, hw9⟩ : ∃ w9, w9 = wr := ⟨_, rfl⟩
    subst hw9
    have bx := hsp.bx hB (by decide)
    have x0 := bx.at_ 4 e1
    have rr := hsp.own r (by decide)
    by_cases hlt : j < n
    · obtain ⟨b1, l, A3, c3, rfl, hb1, hl1, y1, hv1, _, hfew⟩ := bk_get rr hK hlt
      obtain ⟨m, hm⟩ : ∃ m, m = l.length := ⟨_, rfl⟩
      rw [← hm] at y1 hv1 hfew
      have HM := Lib.hid hm
      clear hm
      have g0 : (0 : Int) ≤ (j : Int) := by omega
      have g1 : (j : Int) < (n : Int) := by omega
      have HL1 := Lib.hid hl1
      have HV1 := Lib.hid hv1
      have HX := Lib.hid (And.intro bx rr)
      have HK := Lib.hid hK
      have HSP := Lib.hid hsp
      clear hl1 hv1 bx rr hK hsp K r hB
      go_upto_region 5 with (first
        | (go_at_call 100; refine (markRecords_any j 0 m w9 (by omega) (by omega)).mono ?_; rintro e w1 ⟨vm, rfl, hom, hb1'⟩; obtain ⟨AM, cM, rfl, _⟩ := bk_sl hom))
      have hst : Spares B 61 w6 w1 := HSP.out.trans (.of_below hb1')
      have hKt : Kept Rc.cells 61 7 w1 B vs ((marksTo mkRecords 0 j ls).set j (marked mkRecords j 0 l)) := by
        rw [marked_zero, bk_set_self HL1.out]; exact HK.out.below hb1'
      have hbx1 := HX.out.1.below hb1'
      have hrr1 := bk_below HX.out.2 hb1'
      have HSZ := Lib.hid hb1'.size
      clear x0 y1 hb1'
      go_loopw [4] (fun i wk => ∃ p : Nat, p ≤ m ∧ i = .int .i64 p ∧ Spares B 61 w6 wk ∧ Kept Rc.cells 61 7 wk B vs ((marksTo mkRecords 0 j ls).set j (marked mkRecords j p l)) ∧ wk.ownsRow w9.heap.size 61 7 (.slice AM m cM) m ((marks mkRecords j 0 m).flatMap Rc.cells) ∧ Bx wk g 44 fs ∧ wk.ownsRow B 49 1 (.slice (some ⟨b1, 0, none⟩) n c) n vs) (fun i _ => m - (intOf i).toNat)
      case atStart => exact ⟨0, Nat.zero_le _, rfl, hst, hKt, hom, hbx1, hrr1⟩
      case round =>
        clear hst hKt hom hbx1 hrr1
        obtain ⟨p, hp, rfl, hsp, hK, hom, bx, rr⟩ := hrel
        have x0 := bx.at_ 4 e1
        by_cases hlp : p < m
        · obtain ⟨b1', l', A3', c3', e3, hb1, hl1, y1, hv1, _, _⟩ := bk_get rr hK hlt
          obtain rfl : b1 = b1' := by injection e3 with e3; injection e3
          have hj' : j < (marksTo mkRecords 0 j ls).length := (List.getElem?_eq_some_iff.1 HL1.out).1
          rw [List.getElem?_set_self hj'] at hl1
          injection hl1 with hl1
          have hlen : (marked mkRecords j p l).length = m := by rw [marked_len _ _ _ _ (by rw [← HM.out]; exact hp), HM.out]
          rw [← hl1, hlen, HV1.out] at hv1
          injection hv1 with hv1
          injection hv1 with ea _ ec
          subst ea ec
          rw [← hl1, hlen] at y1
          have ho := hK.own j _ _ HV1.out (by rw [List.getElem?_set_self hj'])
          rw [hlen] at ho
          obtain ⟨g2, rfl⟩ : ∃ g2, A3 = some ⟨g2, 0, none⟩ := by
            rcases ho.2 with ⟨_, h0⟩ | ⟨g2, _, _, e, _⟩
            · omega
            · injection e with e; exact ⟨g2, e⟩
          obtain ⟨AM', cM', e4, SM⟩ := bk_sl hom
          injection e4 with e4 _ e5
          subst e4 e5
          obtain ⟨bm, om, rfl, hbm, X⟩ := (viewRecords SM rfl (by rw [marks_len]; omega) (marksRecords_ok (by omega) (by omega))).get (j := p) (by rw [marks_len]; omega)
          obtain ⟨r0, r1, r2, r3, r4, r5, r6⟩ := X
          have hmg := marks_get mkRecords j m 0 p hlp
          have hml : p < (marks mkRecords j 0 m).length := by rw [marks_len]; exact hlp
          rw [List.getElem?_eq_getElem hml, Nat.zero_add] at hmg
          injection hmg with hmg
          have HMG := Lib.hid hmg
          clear hmg
          generalize (marks mkRecords j 0 m)[p]'hml = x at *
          have ho' : wr.ownsRow B 61 7 (.slice (some ⟨g2, 0, none⟩) (marked mkRecords j p l).length c3) (marked mkRecords j p l).length ((marked mkRecords j p l).flatMap Rc.cells) := by rw [hlen]; exact ho
          obtain ⟨hop, hgp⟩ := bk_put (enc := Rc.cells) rc_len ho' p (by rw [hlen]; exact hlp) x
          have hne : some g2 ≠ (Value.slice (some ⟨bm, om, none⟩) m cM).ownBlock := fun e => by
            have h1 := (hom.lt _ e.symm).1
            have h2 := (HK.out.own j _ _ HV1.out HL1.out).lt g2 rfl
            omega
          have hom2 := hom.kept hgp (by cases hq : (Value.slice (some ⟨bm, om, none⟩) m cM).ownBlock with
            | none => exact .inl rfl
            | some z => exact .inr (by rw [← hq]; exact fun e => hne e.symm))
          have hK2 := hK.set (i := j) (l' := (marked mkRecords j p l).set p x) HV1.out (by rw [List.getElem?_set_self hj']) hgp (by rw [List.length_set, hlen] ; rw [hlen] at hop; exact hop) (by rw [List.length_set])
          rw [List.set_set, HMG.out, marked_next _ _ _ _ (by rw [← HM.out]; exact hlp)] at hK2
          have hs2 : Spares B 61 wr (wr.setCells g2 (p * 7) (Rc.cells x)) := Spares.row (v := .slice (some ⟨g2, 0, none⟩) m c3) hgp ho
          rw [← HMG.out] at hK2
          have bx2 := hs2.bx bx (by decide)
          have rr2 := hs2.own rr (by decide)
          have hs3 := hsp.trans hs2
          have f0 := ho.frozenAt (p * 7)
          obtain ⟨z0, hz0⟩ := bk_some ho (j := p * 7) (by omega)
          have f1 := ho.frozenAt (p * 7 + 1)
          obtain ⟨z1, hz1⟩ := bk_some ho (j := p * 7 + 1) (by omega)
          have f2 := ho.frozenAt (p * 7 + 2)
          obtain ⟨z2, hz2⟩ := bk_some ho (j := p * 7 + 2) (by omega)
          have f3 := ho.frozenAt (p * 7 + 3)
          obtain ⟨z3, hz3⟩ := bk_some ho (j := p * 7 + 3) (by omega)
          have f4 := ho.frozenAt (p * 7 + 4)
          obtain ⟨z4, hz4⟩ := bk_some ho (j := p * 7 + 4) (by omega)
          have f5 := ho.frozenAt (p * 7 + 5)
          obtain ⟨z5, hz5⟩ := bk_some ho (j := p * 7 + 5) (by omega)
          have f6 := ho.frozenAt (p * 7 + 6)
          obtain ⟨z6, hz6⟩ := bk_some ho (j := p * 7 + 6) (by omega)
          have hfin := Lib.hid (show ∀ W, W = wr.setCells g2 (p * 7) (Rc.cells x) → Spares B 61 w6 W ∧ Kept Rc.cells 61 7 W B vs ((marksTo mkRecords 0 j ls).set j (marked mkRecords j (p + 1) l)) ∧ W.ownsRow w9.heap.size 61 7 (.slice (some ⟨bm, om, none⟩) m cM) m ((marks mkRecords j 0 m).flatMap Rc.cells) ∧ Bx W g 44 fs ∧ W.ownsRow B 49 1 (.slice (some ⟨b1, 0, none⟩) n c) n vs from by
            rintro W rfl
            exact ⟨hs3, hK2, hom2, bx2, rr2⟩)
          have q0 : (0 : Int) ≤ (p : Int) := by omega
          have q1 : (p : Int) < (m : Int) := by omega
          clear ho ho' hop hgp hom2 hK2 hs2 bx2 rr2 hs3 hK hom bx rr hsp SM hl1 hlen hml
          go_wp2
          go_still_tail 13, (by kernel_rfl)
          change wpList _ _ _ _ _ wr.drew
          go_wp2
          go_roundw
          case rel =>
            obtain ⟨h1, h2, h3, h4, h5⟩ := hfin.out _ rfl
            have hdd := fun W : World => (Below.refl W.heap.size W).drew
            exact ⟨p + 1, by omega, by go_num, h1.trans (.of_below (hdd _)), h2.below (hdd _), bk_below h3 (hdd _), h4.below (hdd _), bk_below h5 (hdd _)⟩
          case measure => simp [intOf]; omega
        · have q1 : decide ((p : Int) < (m : Int)) = false := decide_eq_false (by omega)
          have hpm : p = m := by omega
          subst hpm
          go_wp2
          go_roundw
          case rel => exact ⟨j + 1, by omega, by go_num, hsp, by rw [HM.out, marked_all, marksTo_next _ (by rw [← marksTo_at mkRecords ls j]; exact HL1.out)] at hK; exact hK⟩
          case measure => simp [intOf]; omega
    · have g1 : decide ((j : Int) < (n : Int)) = false := decide_eq_false (by omega)
      have hje : j = n := by omega
      subst hje
      go_wp2
      go_end0
      exact ⟨rfl, hsp, by rw [marksTo_all _ (by rw [HNL.out]; exact Nat.le_refl _)] at hK; exact hK⟩

end Go.Proofs.YtcglbbabfkbcbadGreat
