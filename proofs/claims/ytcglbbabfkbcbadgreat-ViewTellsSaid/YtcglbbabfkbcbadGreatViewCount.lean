/-
  view.Count.
-/
import Derived.Test.YtcglbbabfkbcbadGreatViewAll
namespace Go.Proofs.YtcglbbabfkbcbadGreat
open Go.ChangeShapes Go.WideShapes Go.ChangeAt Go.RowKit Go.Deep Go.Maps

def countL (r : Rch) (l : List Smp) (n : Nat) : List Int := (List.range n).map fun i : Nat => ((recsOf r i l).length : Int)
theorem countL_succ (r : Rch) (l : List Smp) (n : Nat) : countL r l (n + 1) = countL r l n ++ [((recsOf r n l).length : Int)] := by unfold countL; rw [List.range_succ, List.map_append]; rfl
theorem countL_len (r : Rch) (l : List Smp) (n : Nat) : (countL r l n).length = n := by simp [countL]
theorem gsum_perm {a b : List Gr} (h : a.Perm b) : gsum a = gsum b := (h.map _).sum_nat
theorem gsum_came (gs : List Gr) (left : Lit → Bool) : gsum (cameG gs left) ≤ gsum gs := by
  unfold cameG
  induction gs with
  | nil => exact Nat.le_refl _
  | cons a r ih =>
    rw [List.filter_cons]
    split
    · simp only [gsum, List.map_cons, List.sum_cons] at ih ⊢; omega
    · simp only [gsum, List.map_cons, List.sum_cons] at ih ⊢; omega
theorem gsum_cons (g : Gr) (r : List Gr) : gsum (g :: r) = g.vs.length + gsum r := by simp [gsum]
set_option maxRecDepth 100000 in
set_option maxHeartbeats 8000000 in
theorem count_any (A : Option Addr) (n c : Nat) (B : Option Addr) (m d : Nat) (r : Rch) (C : Option Addr) (k e : Nat) (l : List Smp) (w : World) (h : RchAt w A n B m r) (hn : n ≤ 100000) (hl : Smps w C k l) (hk : k ≤ 100000) :
    Calls Tryz.prog 11 #[rchV r.now r.nm A n c B m d, .slice C k e] w fun x w' => ∃ v, x = .returned v ∧ w'.ownsRow w.heap.size 3 1 v n ((countL r l n).map (Value.int .i64)) ∧ Below w.heap.size w w' := by
  have hb0 : Below w.heap.size w (w.alloc (.cells #[.int .i64 r.now, .string r.nm, .slice A n c, .slice B m d] 46)) := (Below.refl _ w).alloc (Nat.le_refl _) _
  have b0 := Bx.new w 46 #[.int .i64 r.now, .string r.nm, .slice A n c, .slice B m d]
  have HT := Lib.hid h
  have HS := Lib.hid hl
  obtain ⟨i0, hi, hz0, hz1, hz2⟩ := info_parts info_int
  have HI := Lib.hid hi
  have HI0 := Lib.hid hz0
  have HI1 := Lib.hid hz1
  have HI2 := Lib.hid hz2
  clear hi hz0 hz1 hz2 h hl
  go_enter Tryz.func11, Tryz.ntmps11
  go_wp2_with fail
  go_loopw [5, 6, 7, 9, 14] (fun v _ _ _ i wr => ∃ (j : Nat), j ≤ n ∧ i = .int .i64 j ∧ wr.ownsRow (w.heap.size + 1) 3 1 v j ((countL r l j).map (Value.int .i64)) ∧ Bx wr w.heap.size 46 #[.int .i64 r.now, .string r.nm, .slice A n c, .slice B m d] ∧ Below w.heap.size w wr) (fun _ _ _ _ i _ => n - (intOf i).toNat)
  case atStart => exact ⟨0, Nat.zero_le _, rfl, World.ownsRow_nil _ _ _ _, b0, hb0⟩
  case round =>
    clear b0 hb0
    obtain ⟨j, hj, rfl, hrow, bx, hbr⟩ := hrel
    by_cases hlt : j < n
    · have hbs := bx.lt
      have q0 := bx.at_ 0 rfl
      have q1 := bx.at_ 1 rfl
      have q2 := bx.at_ 2 rfl
      have q3 := bx.at_ 3 rfl
      have HPU := Lib.hid (put_any A n c B m d r (j : Int) C k e l wr (HT.out.below hbr) (by omega) (HS.out.below hbr) hk)
      have HRW := Lib.hid hrow
      clear hrow
      go_wp2_with (first
        | (go_at_call 25
           refine HPU.out.mono ?_
           rintro e w1 ⟨b, gs, rfl, hbb, G, hpm, hgl, hgs, hb1⟩
           obtain ⟨D, hown, hrep⟩ := G.own
           have hmap := ownsMap_of_groups hown
           have HREP := Lib.hid hrep
           have HGS := Lib.hid hgs
           have hkl := recs_len r j l
           have hSl := HS.out.len
           have hbr1 := hbr.trans (hb1.mono hbr.size)
           have HRW1 := Lib.hid (own_below' HRW.out hb1)
           have bx1 := bx.below hb1
           have hbl := G.lt
           clear hpm G hown hrep HPU hgs)
        | (at_range
           refine wpList_range_own _ rfl _ 80 rfl 83 25 place_law Tryz.underlying80 (rowElem w1 (b + 1) 3 .i64) b k _ rfl hmap ?_
           intro w0 hrg0 hg0 hs0))
      go_frame
      obtain ⟨wo, hwo⟩ : ∃ wo, wo = w1 := ⟨_, rfl⟩
      subst hwo
      go_loopw [7, 9] (fun t _ wr => ∃ (left : Lit → Bool) (cnt : Nat), wr.ranges Tryz.prog 83 (rowElem wo (b + 1) 3 .i64) b wo.heap.size k D left cnt ∧ t = .int .i64 (gsum (cameG gs left) : Nat) ∧ Below wo.heap.size wo wr)
        (fun _ _ wr => wr.rangeLeft b wo.heap.size)
      case atStart => exact ⟨_, _, hrg0, by rw [cameG_start HREP.out]; rfl, (Below.refl _ _).grown hg0 (Nat.le_refl _) (fun k hk => by cases hk)⟩
      case round =>
        obtain ⟨left, cnt, hrg, rfl, hbel⟩ := hrel
        go_wp2_with (at_next; refine wpList_next_ranges _ rfl _ rfl 83 place_law (rowElem wo (b + 1) 3 .i64) (fun x : ByteArray × Int => placeV x.1 x.2) slV inv_place inv_row b wo.heap.size k _ _ _ rfl hrg ?_ ?_)
        · intro _ hl0
          rw [cameG_end hl0, HGS.out]
          have hrow2 := own_below' HRW1.out hbel
          have bx2 := bx1.below hbel
          have hbr2 := hbr1.trans (hbel.mono hbr1.size)
          have hbz := hbr2.size
          have HRW2 := Lib.hid (hrow2.alloc (.cells #[.int .i64 ((recsOf r j l).length : Nat)] 3))
          have HSL := Lib.hid (Sl.new wr 3 wr.heap.size [.int .i64 ((recsOf r j l).length : Nat)] #[.int .i64 ((recsOf r j l).length : Nat)] rfl rfl)
          have hrl := hrow2.lt
          have HRL := Lib.hid hrl
          have hw1 := bx2.lt
          clear hrg hl0 hrow2 hrl
          go_wp2_with (at_builtin; refine wpList_append_sl _ rfl _ _ 25 rfl (w.heap.size + 1) 3 i0 _ 1 8 Tryz.underlying25 HI.out HI0.out HI1.out HI2.out rfl (by decide) u5 j _ rfl HRW2.out (some ⟨wr.heap.size, 0, none⟩) 1 1 _ rfl rfl HSL.out (int_one .i64 [((recsOf r j l).length : Int)]) ?c4 ?c5 ?c6 ?_; (unfold maxLen; omega); (omega); (simp; omega); intro v' w4 hown4 hg4 _)
          have bx4 := (bx2.alloc (.cells #[.int .i64 ((recsOf r j l).length : Nat)] 3)).grown hg4 (fun e => by have := (HRL.out _ e.symm).1; omega)
          have hbr4 := (hbr2.alloc hbr2.size (.cells #[.int .i64 ((recsOf r j l).length : Nat)] 3)).grown hg4 (by simp; omega) (fun q hq => by have := (HRL.out q hq).1; omega)
          go_roundw
          case rel => exact ⟨j + 1, by omega, by go_num, by rw [countL_succ, List.map_append]; exact hown4, bx4, hbr4⟩
          case measure => simp [intOf]; omega
        · intro s st a1 a2 a3 kl dd ps w1 cnt1 hkey hlx hv hat hrg1 hlt2 hg1 hs1 hen
          obtain ⟨g, hg, rfl, rfl, rfl, hoi⟩ := HREP.out.next hkey hv hat
          obtain ⟨a1', a3', e1, _⟩ := own_ints hoi.1 rfl hoi.2 (own_le hoi.1)
          have e2 : a1 = a1' ∧ a2 = g.vs.length ∧ a3 = a3' := by simpa [slV] using e1
          obtain ⟨rfl, rfl, rfl⟩ := e2
          have hst := gsum_perm (cameG_step HREP.out hg hlx)
          rw [gsum_cons] at hst
          have hle := gsum_came gs (fun z => left z && !z.sameKey (klit g.nm g.st))
          have hgg := HGS.out
          have hb1 : gsum (cameG gs left) ≤ 100000 := by omega
          have hb2 : g.vs.length ≤ 100000 := by omega
          have HST := Lib.hid hst
          have HRG := Lib.hid hrg
          have HLT := Lib.hid hlt2
          have HHS := Lib.hid hs1
          have hbel1 := hbel.grown hg1 hbel.size (fun k hk => by cases hk; exact Nat.le_refl _)
          have HHG := Lib.hid hgg
          clear hs1 hst hrg hlt2 hoi e1 hv hat hkey hlx hle hgg
          generalize hgsum : gsum (cameG gs left) = t at *
          generalize hgv : g.vs.length = u at *
          have HG1 := Lib.hid hgsum
          have HG2 := Lib.hid hgv
          clear hgsum hgv
          go_wp2
          go_roundw
          case rel => exact ⟨_, cnt1, hrg1, by rw [HST.out]; go_num, hbel1⟩
          case measure => rw [hrg1.left_eq, HRG.out.left_eq]; exact HLT.out
    · have hje : j = n := by omega
      subst hje
      go_wp2
      go_ret
      exact ⟨_, rfl, own_low hrow (Nat.le_succ _), hbr⟩
end Go.Proofs.YtcglbbabfkbcbadGreat
