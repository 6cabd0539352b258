/-
  Several texts in one: ViewAlive, SameRecsV.
-/
import Derived.Test.YtcglbbabfkbcbadGreatM15
import Derived.Test.YtcglbbabfkbcbadGreatM7
/- The first call of the statements of chapter 12: it answers true. -/
namespace Go.Proofs.YtcglbbabfkbcbadGreat
open Go.ChangeShapes Go.WideShapes Go.ChangeAt Go.RowKit Go.Deep Go.Maps

def webTs : List Ti := [⟨⟨#[114, 97, 119]⟩, 1, 100, 2⟩, ⟨⟨#[116, 101, 110, 115]⟩, 10, 1000, 1⟩]
def webNm : ByteArray := ⟨#[119, 101, 98]⟩
theorem webTs_ok : ∀ t ∈ webTs, t.Ok := by
  intro t ht
  simp only [webTs, List.mem_cons, List.not_mem_nil, or_false] at ht
  rcases ht with rfl | rfl <;> exact ⟨by decide, by decide, by decide, by decide⟩
set_option maxRecDepth 100000 in
set_option maxHeartbeats 2000000 in
theorem web_any (w : World) : Calls Tryz.prog 22 #[] w fun e w' => ∃ A c, e = .returned (polV webNm A 2 c) ∧ Tis w' A 2 webTs ∧ Below w.heap.size w w' := by
  have hT : Tis ((w.alloc (.cells #[.string ⟨#[119, 101, 98]⟩, .slice (some ⟨w.heap.size + 1, 0, none⟩) 2 2] 24)).alloc (.cells #[.string ⟨#[114, 97, 119]⟩, .int .i64 1, .int .i64 100, .int .i64 2, .string ⟨#[116, 101, 110, 115]⟩, .int .i64 10, .int .i64 1000, .int .i64 1] 31)) (some ⟨w.heap.size + 1, 0, none⟩) 2 webTs :=
    ⟨Sl.new _ _ _ _ _ (by simp) rfl, rfl, by decide, webTs_ok⟩
  have B := (Bx.new w 24 #[.string ⟨#[119, 101, 98]⟩, .slice (some ⟨w.heap.size + 1, 0, none⟩) 2 2]).alloc (.cells #[.string ⟨#[114, 97, 119]⟩, .int .i64 1, .int .i64 100, .int .i64 2, .string ⟨#[116, 101, 110, 115]⟩, .int .i64 10, .int .i64 1000, .int .i64 1] 31)
  have hb : Below w.heap.size w ((w.alloc (.cells #[.string ⟨#[119, 101, 98]⟩, .slice (some ⟨w.heap.size + 1, 0, none⟩) 2 2] 24)).alloc (.cells #[.string ⟨#[114, 97, 119]⟩, .int .i64 1, .int .i64 100, .int .i64 2, .string ⟨#[116, 101, 110, 115]⟩, .int .i64 10, .int .i64 1000, .int .i64 1] 31)) := ((Below.refl w.heap.size w).alloc (Nat.le_refl _) _).alloc (by simp) _
  have HB := Lib.hid B
  have HT := Lib.hid hT
  have HBB := Lib.hid hb
  clear B hT hb
  go_enter Tryz.func22, Tryz.ntmps22
  go_wp2
  exact bodyPost_ret (v := polV webNm (some ⟨w.heap.size + 1, 0, none⟩) 2 2) (by simp [results, Tryz.results22, go_sem, HB.out.at_ 0 rfl, HB.out.at_ 1 rfl, webNm]) rfl ⟨_, _, rfl, HT.out, HBB.out⟩
def web30 : Rch := ⟨30, webNm, webTs, []⟩
def smpA (t v : Int) : Smp := ⟨⟨#[97]⟩, t, v⟩
theorem web_recs : recsOf web30 1 [smpA 21 4, smpA 25 6] = [⟨⟨#[97]⟩, 20, oneG 4⟩, ⟨⟨#[97]⟩, 20, oneG 6⟩] := by decide +kernel
theorem web_recs0 : recsOf web30 0 [smpA 21 4] = [⟨⟨#[97]⟩, 21, oneG 4⟩] := by decide +kernel
theorem web_cover : web30.cover 20 = 0 := by decide +kernel
theorem web_view : viewL web30 1 [smpA 21 4, smpA 25 6] = [⟨⟨#[97]⟩, 20, ⟨2, 0, 10, 4, 6⟩⟩] := by
  have e1 : rightR 1 ⟨⟨#[97]⟩, 20, oneG 4⟩ = true := by decide +kernel
  have e3 : rightR 1 ⟨⟨#[97]⟩, 20, oneG 6⟩ = true := by decide +kernel
  have m1 : mergeL [Ag.zero, oneG 4] = oneG 4 := by decide +kernel
  have m2 : mergeL [oneG 4, oneG 6] = ⟨2, 0, 10, 4, 6⟩ := by decide +kernel
  unfold viewL addL
  rw [web_recs, List.foldl_cons, List.foldl_cons, List.foldl_nil]
  have s1 : addR 1 [] ⟨⟨#[97]⟩, 20, oneG 4⟩ = [⟨⟨#[97]⟩, 20, oneG 4⟩] := by
    unfold addR
    rw [if_pos e1]
    show putR ⟨_, _, mergeL [Ag.zero, _]⟩ [] = _
    rw [m1]; rfl
  rw [s1]
  unfold addR
  rw [if_pos e3]
  have f : agAt [⟨⟨#[97]⟩, 20, oneG 4⟩] ⟨#[97]⟩ 20 = oneG 4 := by simp [agAt, findR]
  show putR ⟨_, _, mergeL [agAt [⟨⟨#[97]⟩, 20, oneG 4⟩] ⟨#[97]⟩ 20, _]⟩ _ = _
  rw [f, m2]
  unfold putR
  exact if_pos (Rc.same_iff.2 ⟨rfl, rfl⟩)
theorem web_ask : (askL web30 ⟨#[97]⟩ 20 30 [smpA 21 4]).length = 1 := by
  have e1 : rightR 1 ⟨⟨#[97]⟩, 21, oneG 4⟩ = true := by decide +kernel
  have m1 : mergeL [Ag.zero, oneG 4] = oneG 4 := by decide +kernel
  have hv : viewL web30 0 [smpA 21 4] = [⟨⟨#[97]⟩, 21, oneG 4⟩] := by
    unfold viewL addL
    rw [web_recs0, List.foldl_cons, List.foldl_nil]
    unfold addR
    rw [if_pos e1]
    show putR ⟨_, _, mergeL [Ag.zero, _]⟩ [] = _
    rw [m1]; rfl
  unfold askL
  rw [web_cover, hv]
  decide +kernel
theorem smps_new (w : World) (g : Nat) (hg : g = w.heap.size) (cs : Array Value) (l : List Smp) (n : Nat) (hc : cs.toList = l.flatMap Smp.cells) (hl : l.length = n) (hn : n ≤ maxLen) (hok : ∀ s ∈ l, s.Ok) : Smps (w.alloc (.cells cs 76)) (some ⟨g, 0, none⟩) n l :=
  ⟨Sl.new w _ _ _ cs hg hc, hl, hn, hok⟩
theorem smpA_ok (t v : Int) (ht : -1000 ≤ t ∧ t ≤ 1000) (hv : -1000 ≤ v ∧ v ≤ 1000) : (smpA t v).Ok := ⟨by show (1 : Nat) ≤ maxLen; decide, by simp only [smpA]; omega, by simp only [smpA]; omega⟩
theorem rows_one {w : World} {B : Nat} {D : Option Addr} {q : Nat} {r : Rc} (h : w.ownsRow B 61 7 (.slice D 1 q) 1 ([r].flatMap Rc.cells)) : ∃ g, D = some ⟨g, 0, none⟩ ∧ B ≤ g ∧ g < w.heap.size ∧ RcCells w g 0 r := by
  rcases h.2 with ⟨_, h0⟩ | ⟨g, cap, cur, e, hb, hg, _⟩
  · omega
  · cases e
    have key : ∀ i, i < 7 → w.cell? ⟨g, i, none⟩ = ([r].flatMap Rc.cells)[i]? := fun i hi => h.cellAt i hi
    exact ⟨g, rfl, hb, lt_of_block hg, key 0 (by omega), key 1 (by omega), key 2 (by omega), key 3 (by omega), key 4 (by omega), key 5 (by omega), key 6 (by omega)⟩
set_option maxRecDepth 100000 in
set_option maxHeartbeats 8000000 in
theorem alive_any (w : World) : Calls Tryz.prog 6 #[] w fun e w' => e = .returned (.bool true) ∧ Below w.heap.size w w' := by
  have HC := Lib.hid web_cover
  have HV := Lib.hid web_view
  have HA := Lib.hid web_ask
  go_enter Tryz.func6, Tryz.ntmps6
  go_wp2_with fail
  refine (web_any w).mono ?_
  rintro e w1 ⟨A, c, rfl, hT, hb1⟩
  have HO := Lib.hid (reachOf_any 30 webNm A 2 c webTs none 0 0 [] w1 hT ⟨Sl.nil _ _, rfl, by decide, by simp⟩ (by omega) (by omega) (by omega))
  clear hT
  go_wp2_with fail
  refine HO.out.mono ?_
  rintro e w2 ⟨A', c', B', d', rfl, hR, _, _, hb2⟩
  have hbw2 := hb1.trans (hb2.mono hb1.size)
  have HR := Lib.hid (show RchAt w2 A' 2 B' 0 web30 from hR)
  clear hR HO hb1 hb2
  have BR := Bx.new w2 46 #[.int .i64 30, .string webNm, .slice A' 2 c', .slice B' 0 d']
  have hba := (Below.refl w2.heap.size w2).alloc (Nat.le_refl _) (.cells #[.int .i64 30, .string webNm, .slice A' 2 c', .slice B' 0 d'] 46)
  go_wp2_with fail
  have hz3 : (w2.alloc (.cells #[.int .i64 30, .string webNm, .slice A' 2 c', .slice B' 0 d'] 46)).heap.size = w2.heap.size + 1 := by simp
  have HZ3 := Lib.hid hz3
  have HR3 := Lib.hid (HR.out.below hba)
  have hbw3 := hbw2.trans (hba.mono hbw2.size)
  generalize w2.alloc (.cells #[.int .i64 30, .string webNm, .slice A' 2 c', .slice B' 0 d'] 46) = w3 at *
  clear hz3 hba HR hbw2
  have hb4 := (Below.refl w3.heap.size w3).alloc (Nat.le_refl _) (.cells #[.string ⟨#[97]⟩, .int .i64 21, .int .i64 4, .string ⟨#[97]⟩, .int .i64 25, .int .i64 6] 76)
  refine (tier_any A' 2 c' B' 0 d' web30 1 _ 2 2 [smpA 21 4, smpA 25 6] _ (HR3.out.below hb4) (by omega) (smps_new w3 (w2.heap.size + 1) HZ3.out.symm _ _ 2 rfl rfl (by decide) (fun s hs => by
    simp only [List.mem_cons, List.not_mem_nil, or_false] at hs
    rcases hs with rfl | rfl <;> exact smpA_ok _ _ (by omega) (by omega))) (by omega)).mono ?_
  rw [HV.out]
  rintro e w5 ⟨v5, rfl, hrow5, hb5⟩
  obtain ⟨D5, q5, rfl, _⟩ := own_sl hrow5
  obtain ⟨g5, rfl, hg5, hl5, X5⟩ := rows_one hrow5
  have hb35 := hb4.trans (hb5.mono hb4.size)
  have BR5 := BR.below hb35
  have HR5 := Lib.hid (HR3.out.below hb35)
  have hbw5 := hbw3.trans (hb35.mono hbw3.size)
  have q0 := BR5.at_ 0 rfl
  have q1 := BR5.at_ 1 rfl
  have q2 := BR5.at_ 2 rfl
  have q3 := BR5.at_ 3 rfl
  clear hrow5 hb5 hb4 hb35 BR HR3 hbw3
  go_wp2_with fail
  have hb6 := (Below.refl w5.heap.size w5).alloc (Nat.le_refl _) (.cells #[.string ⟨#[97]⟩, .int .i64 21, .int .i64 4] 76)
  refine (ask_yes A' 2 c' B' 0 d' web30 ⟨#[97]⟩ 20 30 _ 1 1 [smpA 21 4] _ (HR5.out.below hb6) (by omega) (smps_new w5 w5.heap.size rfl _ _ 1 rfl rfl (by decide) (fun s hs => by
    rw [List.mem_singleton.1 hs]; exact smpA_ok _ _ (by omega) (by omega))) (by omega) (by decide) (by decide +kernel) (by omega) (by omega)).mono ?_
  rw [HA.out, HC.out]
  rintro e w6 ⟨D6, q6, rfl, _, hb7⟩
  have hb56 := hb6.trans (hb7.mono hb6.size)
  have X6 := X5.keep (grown_of_below hb56 none) (by simp)
  have BR6 := BR5.below hb56
  have HR6 := Lib.hid (HR5.out.below hb56)
  have hbw6 := hbw5.trans (hb56.mono hbw5.size)
  have hl6 : g5 < w6.heap.size := Nat.lt_of_lt_of_le hl5 hb56.size
  clear q0 q1 q2 q3 X5 BR5 HR5 hb6 hb7 hb56
  have hb7 := (Below.refl w6.heap.size w6).alloc (Nat.le_refl _) (.cells #[.int .i64 0, .slice D6 1 q6] 63)
  have X7 := X6.keep (grown_of_below hb7 none) (by simp)
  have BR7 := BR6.below hb7
  have q0 := BR7.at_ 0 rfl
  have q1 := BR7.at_ 1 rfl
  have q2 := BR7.at_ 2 rfl
  have q3 := BR7.at_ 3 rfl
  obtain ⟨r0, r1, r2, r3, r4, r5, r6⟩ := X7
  rw [Nat.zero_add] at r1 r2 r3 r4 r5 r6
  have hbw7 := hbw6.trans (hb7.mono hbw6.size)
  have HAL := Lib.hid (all_any A' 2 c' B' 0 d' web30 none 0 0 [] _ (HR6.out.below hb7) (by omega) ⟨Sl.nil _ _, rfl, by decide, by simp⟩ (by omega))
  clear X6 BR6 HR6
  go_wp2_with fail
  refine HAL.out.mono ?_
  rintro e w8 ⟨v8, vs8, rfl, hV, hb8⟩
  have hl8 : vs8.length = 2 := hV.len
  have ho8 := hV.own
  rw [hl8] at ho8
  obtain ⟨D8, q8, rfl, _⟩ := own_sl ho8
  clear hV ho8
  go_wp2
  go_ret
  exact ⟨rfl, hbw7.trans (hb8.mono hbw7.size)⟩
end Go.Proofs.YtcglbbabfkbcbadGreat
/- sedimentbook.SameRecords, at like lists. -/
namespace Go.Proofs.YtcglbbabfkbcbadGreat
open Go.RowKit Go.Maps

set_option maxRecDepth 100000 in
set_option maxHeartbeats 2000000 in
theorem sameRecs_any (A B : Option Addr) (n m c d : Nat) (l : List Rc) (w : World) (hA : Rcs w A n l) (hB : Rcs w B m l) : Calls Tryz.prog 14 #[.slice A n c, .slice B m d] w fun e w' => e = .returned (.bool true) ∧ Below w.heap.size w w' := by
  obtain rfl : n = m := hA.len.symm.trans hB.len
  have hn := hA.n_le
  have HL := Lib.hid hA.len
  unfold maxLen at hn
  go_enter Tryz.func14, Tryz.ntmps14
  go_wp2
  obtain ⟨w6, hw6⟩ : ∃ w6, w6 = w := ⟨_, rfl⟩
  subst hw6
  go_loopw [5] (fun i wr => ∃ j : Nat, j ≤ n ∧ i = .int .i64 j ∧ Below w6.heap.size w6 wr) (fun i _ => n - (intOf i).toNat)
  case atStart => exact ⟨0, Nat.zero_le _, rfl, Below.refl _ _⟩
  case round =>
    obtain ⟨j, hj, rfl, hbel⟩ := hrel
    by_cases hlt : j < n
    · have K : j < l.length := by rw [HL.out]; exact hlt
      obtain ⟨b, off, rfl, hb, X⟩ := (hA.below hbel).get K
      obtain ⟨r0, r1, r2, r3, r4, r5, r6⟩ := X
      obtain ⟨b2, off2, rfl, hb2, Y⟩ := (hB.below hbel).get K
      obtain ⟨s0, s1, s2, s3, s4, s5, s6⟩ := Y
      generalize l[j]'K = x at *
      have g0 : (0 : Int) ≤ (j : Int) := by omega
      have g1 : (j : Int) < (n : Int) := by omega
      go_wp2
      go_quiet (fail)
      go_wp2
      go_roundw
      case rel => exact ⟨j + 1, by omega, by go_num, below_drewN hbel _⟩
      case measure => simp [intOf]; omega
    · have hd : decide ((j : Int) < (n : Int)) = false := decide_eq_false (by omega)
      go_wp2
      go_ret
      exact ⟨rfl, hbel⟩
end Go.Proofs.YtcglbbabfkbcbadGreat
