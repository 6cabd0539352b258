/-
  WordBack: its walk.
-/
import Derived.Test.YtjolloolinhlnaaDoorWordLaid
import Derived.Test.YtjolloolinhlnaaDoorShort7
namespace Go.Proofs.YtjolloolinhlnaaDoor
open Go.RowKit

/-- Which gap a number names. -/
def gapN (z : Int) : Nat := (((z.tmod 5) + 5).tmod 5).toNat
theorem gapN_lt (z : Int) : 0 ≤ ((z.tmod 5) + 5).tmod 5 ∧ ((z.tmod 5) + 5).tmod 5 < 5 := by
  have h1 := Int.tmod_nonneg (a := (z.tmod 5) + 5) 5 (by have := Int.lt_tmod_of_pos z (b := 5) (by omega); omega)
  exact ⟨h1, Int.tmod_lt_of_pos _ (by omega)⟩
def gapB (k : Nat) : ByteArray := ⟨(gapL k).toArray⟩
theorem gapB_list (k : Nat) : (gapB k).toList = gapL k := by rw [ByteArray.toList_eq]; rfl
/-- What has been laid of the words so far. -/
structure Laid (ss : List ByteArray) (j : Nat) (t : ByteArray) : Prop where
  ps : ∃ ps : List (List UInt8 × Nat), t.toList = laid ps ∧ ps.map Prod.fst = (ss.take j).map ByteArray.toList ∧ ∀ p ∈ ps, GoodW p.1
  size : t.size ≤ total (ss.take j) + 7 * j
theorem Laid.nil (ss : List ByteArray) : Laid ss 0 ByteArray.empty := ⟨⟨[], by rw [ByteArray.toList_eq]; rfl, by simp, by simp⟩, by simp [total]⟩
theorem Laid.next {ss : List ByteArray} {j : Nat} {t : ByteArray} (h : Laid ss j t) (hj : j < ss.length) (hg : GoodW ss[j].toList) (k : Nat) : Laid ss (j + 1) (t ++ ss[j] ++ gapB k) := by
  obtain ⟨ps, h1, h2, h3⟩ := h.ps
  refine ⟨⟨ps ++ [(ss[j].toList, k)], ?_, ?_, ?_⟩, ?_⟩
  · rw [laid_snoc, ← h1, ByteArray.toList_eq, ByteArray.toList_eq, ByteArray.toList_eq, ← gapB_list k, ByteArray.toList_eq (gapB k)]
    simp
  · rw [List.map_append, h2, List.take_succ_eq_append_getElem hj, List.map_append]; rfl
  · intro p hp
    rcases List.mem_append.1 hp with hp | hp
    · exact h3 p hp
    · simp at hp; subst hp; exact hg
  · have := h.size
    have h4 : (gapB k).size ≤ 7 := by rw [← len_toList, gapB_list]; exact gap_len k
    rw [total_next ss j hj, ByteArray.size_append, ByteArray.size_append]; omega
theorem total_take (ss : List ByteArray) (j : Nat) : total (ss.take j) ≤ total ss := by
  unfold total
  have : (ss.map ByteArray.size) = ((ss.take j).map ByteArray.size) ++ ((ss.drop j).map ByteArray.size) := by rw [← List.map_append, List.take_append_drop]
  rw [this, List.sum_append]; omega
theorem cut_clean (s : ByteArray) (w : World) (hs : s.size ≤ 4000) (hm : ∃ m : Int, w.cell? ⟨0, 0, none⟩ = some (.int .i64 m)) (hE : cutE 1 (linesL s) = 0) :
    Calls Tryd.prog 9 #[.string s] w fun e w' => Below w.heap.size w w' ∧ ∃ g, w.heap.size ≤ g ∧ e = .returned (.tuple #[.pointer (some ⟨g, 0, none⟩), .int .i64 0, .int .i64 0]) ∧ WordsAt w' g 0 (cutW 1 (linesL s)) :=
  (cut_small s w hs hm).mono fun _ _ ⟨hb, h⟩ => ⟨hb, h.elim (fun h => absurd hE h.1) (fun h => h.2)⟩
theorem peek_of {W : List Wd} {ss : List ByteArray} {j : Nat} (hj : j < ss.length) (ht : W.map Wd.text = ss.map ByteArray.toList) :
    ∃ x ∈ W, peekV j W = .tuple #[.agg #[.string ss[j], .int .i64 x.line, .int .i64 x.col], .bool true] ∧ nextA j W = j + 1 := by
  have hl : j < W.length := by have := congrArg List.length ht; simp at this; omega
  refine ⟨W[j], List.getElem_mem hl, ?_, by unfold nextA; rw [if_pos hl]⟩
  have h1 : (W.map Wd.text)[j]? = (ss.map ByteArray.toList)[j]? := by rw [ht]
  rw [List.getElem?_map, List.getElem?_map, List.getElem?_eq_getElem hl, List.getElem?_eq_getElem hj] at h1
  have h2 : W[j].text = ss[j].toList := by simpa using h1
  unfold peekV
  rw [List.getElem?_eq_getElem hl]
  show Value.tuple #[wagg W[j], .bool true] = _
  unfold wagg
  rw [h2, ByteArray.toList_eq]
set_option maxRecDepth 100000 in
set_option maxHeartbeats 8000000 in
theorem walk_WordBack (A : Option Addr) (n cap : Nat) (ss : List ByteArray) (B : Option Addr) (gn gc : Nat) (zs : List Int) (w : World) (hm : ∃ m : Int, w.cell? ⟨0, 0, none⟩ = some (.int .i64 m)) (hs : Strs w A n ss) (hz : Ints w .i64 B gn zs) :
    Calls Tryd.prog 6 #[.slice A n cap, .slice B gn gc] w fun e w' => e = .returned (.bool true) ∧ Below w.heap.size w w' := by
  have hlt0 : 0 < w.heap.size := by obtain ⟨m, h⟩ := hm; have := block_lt_of_cell h; simpa using this
  have hgn := hz.n_le
  unfold maxLen at hgn
  go_enter Tryd.func6, Tryd.ntmps6
  go_wp2_with fail
  refine (short_any _ _ _ _ _ _ _ hs (by omega)).mono ?_
  rintro e w1 ⟨b, rfl, hsh, hb1⟩
  have hm1 := hm.imp fun m h => (hb1.cell (p := ⟨0, 0, none⟩) hlt0).trans h
  cases b
  · clear hsh
    go_wp2_with (go_at_call 7; refine (alive_any _ hm1).mono ?_; rintro e w2 ⟨rfl, hb2⟩)
    go_ret
    exact ⟨rfl, hb1.trans (hb2.mono hb1.size)⟩
  obtain ⟨h40, h1500⟩ := hsh rfl
  clear hsh
  by_cases h60 : 60 < gn
  · go_wp2_with (go_at_call 7; refine (alive_any _ hm1).mono ?_; rintro e w2 ⟨rfl, hb2⟩)
    go_ret
    exact ⟨rfl, hb1.trans (hb2.mono hb1.size)⟩
  have hn40 : n ≤ 40 := by omega
  have htot : total ss ≤ 1500 := by omega
  have HL := Lib.hid hs.len
  have HZ := Lib.hid hz.len
  clear h40 h1500
  go_wp2_with fail
  go_loopw [5, 6] (fun t i wr => ∃ (j : Nat) (tb : ByteArray), j ≤ n ∧ i = .int .i64 j ∧ t = .string tb ∧ Laid ss j tb ∧ Below w.heap.size w wr) (fun _ i _ => n - (intOf i).toNat)
  case atStart => exact ⟨0, ByteArray.empty, Nat.zero_le _, rfl, rfl, Laid.nil ss, hb1⟩
  case round =>
    clear hb1 hm1
    obtain ⟨j, tb, hj, rfl, rfl, hlaid, hbr⟩ := hrel
    have HLD := Lib.hid hlaid
    have hmr := hm.imp fun m h => (hbr.cell (p := ⟨0, 0, none⟩) hlt0).trans h
    have htb : tb.size ≤ 1780 := by have := hlaid.size; have := total_take ss j; omega
    clear hlaid
    by_cases hlt : j < n
    · have K : j < ss.length := by rw [HL.out]; exact hlt
      obtain ⟨b, off, rfl, hb, hc⟩ := (hs.below hbr).get K
      have hsz := hs.size _ (List.getElem_mem K)
      have HSZ := Lib.hid hsz
      clear hsz
      have hss : ss[j].size ≤ 1500 := by have h1 := total_next ss j K; have h2 := total_take ss (j + 1); omega
      have HNX := Lib.hid (fun hg => HLD.out.next K hg)
      cases hi : isWordB ss[j]
      · have HI := Lib.hid hi
        clear hi
        go_wp2_with (first
          | (go_at_call 17; refine (is_any ss[j] _ HSZ.out hmr).mono ?_; rw [HI.out]; rintro e w3 ⟨rfl, hb3⟩
             have hb03 := hbr.trans (hb3.mono hbr.size))
          | (go_at_call 7; refine (alive_any _ (hm.imp fun m h => (hb03.cell (p := ⟨0, 0, none⟩) hlt0).trans h)).mono ?_; rintro e w4 ⟨rfl, hb4⟩))
        go_ret
        exact ⟨rfl, hb03.trans (hb4.mono hb03.size)⟩
      · have HI := Lib.hid hi
        have HG := Lib.hid (good_of_is hi).2
        clear hi
        have ks := ByteArray.size_append (a := tb) (b := ss[j])
        by_cases hg : j < gn
        · have KZ : j < zs.length := by rw [HZ.out]; exact hg
          have hq0 : -5 < zs[j].tmod 5 ∧ zs[j].tmod 5 < 5 := ⟨Int.lt_tmod_of_pos _ (by omega), Int.tmod_lt_of_pos _ (by omega)⟩
          obtain ⟨b2, off2, rfl, hb2, hc2⟩ := (hz.below hbr).get KZ
          have hq : zs[j].tmod 5 = -4 ∨ zs[j].tmod 5 = -3 ∨ zs[j].tmod 5 = -2 ∨ zs[j].tmod 5 = -1 ∨ zs[j].tmod 5 = 0 ∨ zs[j].tmod 5 = 1 ∨ zs[j].tmod 5 = 2 ∨ zs[j].tmod 5 = 3 ∨ zs[j].tmod 5 = 4 := by omega
          clear hq0
          have i0 : (0 : Int) ≤ (j : Int) := by omega
          have i1 : (j : Int) < (gn : Int) := by omega
          rcases hq with hq | hq | hq | hq | hq | hq | hq | hq | hq
          all_goals
            go_wp2_with (first
              | (go_at_call 17; refine (is_any ss[j] _ HSZ.out hmr).mono ?_; rw [HI.out]; rintro e w3 ⟨rfl, hb3⟩
                 have hb03 := hbr.trans (hb3.mono hbr.size)
                 have hc3 := (hb3.cell (p := ⟨b, off + j, none⟩) hb).trans hc
                 have hc4 := (hb3.cell (p := ⟨b2, off2 + j, none⟩) hb2).trans hc2
                 have hb5 : b < w3.heap.size := Nat.lt_of_lt_of_le hb hb3.size
                 have hb6 : b2 < w3.heap.size := Nat.lt_of_lt_of_le hb2 hb3.size))
            go_roundw
            case rel => first
              | exact ⟨j + 1, _, by omega, by go_num, rfl, HNX.out HG.out 0, hb03.alloc hb03.size _⟩
              | exact ⟨j + 1, _, by omega, by go_num, rfl, HNX.out HG.out 1, hb03.alloc hb03.size _⟩
              | exact ⟨j + 1, _, by omega, by go_num, rfl, HNX.out HG.out 2, hb03.alloc hb03.size _⟩
              | exact ⟨j + 1, _, by omega, by go_num, rfl, HNX.out HG.out 3, hb03.alloc hb03.size _⟩
              | exact ⟨j + 1, _, by omega, by go_num, rfl, HNX.out HG.out 4, hb03.alloc hb03.size _⟩
            case measure => simp [intOf]; omega
        · go_wp2_with (first
            | (go_at_call 17; refine (is_any ss[j] _ HSZ.out hmr).mono ?_; rw [HI.out]; rintro e w3 ⟨rfl, hb3⟩
               have hb03 := hbr.trans (hb3.mono hbr.size)
               have hc3 := (hb3.cell (p := ⟨b, off + j, none⟩) hb).trans hc))
          go_roundw
          case rel => exact ⟨j + 1, _, by omega, by go_num, rfl, HNX.out HG.out 0, hb03⟩
          case measure => simp [intOf]; omega
    · have hje : j = n := by omega
      have hfull : ss.take j = ss := List.take_of_length_le (by rw [HL.out]; omega)
      obtain ⟨ps, h1, h2, h3⟩ := HLD.out.ps
      rw [hfull] at h2
      obtain ⟨e1, e2, e3⟩ := cut_laid ps tb h1 h3
      obtain ⟨W, hW⟩ : ∃ W, W = cutW 1 (linesL tb) := ⟨_, rfl⟩
      rw [← hW] at e2 e3
      have hWl : W.length = n := by
        have := congrArg List.length (e2.trans h2)
        simp at this; rw [this, HL.out]
      have hWt : W.map Wd.text = ss.map ByteArray.toList := e2.trans h2
      have HE := Lib.hid e1
      have HW := Lib.hid hW
      have HWL := Lib.hid hWl
      have HWT := Lib.hid hWt
      have H3 := Lib.hid e3
      have hd : decide ((j : Int) < (n : Int)) = false := decide_eq_false (by omega)
      clear h1 h2 h3 e1 e2 e3 hW hWl hWt hfull hje
      go_wp2_with (first
        | (go_at_call 9; refine (cut_clean tb _ (by omega) hmr HE.out).mono ?_; rintro e w4 ⟨hb4, g, hg, rfl, hWA⟩
           rw [← HW.out] at hWA
           have hb04 := hbr.trans (hb4.mono hbr.size)
           have hgw : w.heap.size ≤ g := Nat.le_trans hbr.size hg)
        | (go_at_call 10; refine (len_any _ _ _ _ hWA).mono ?_; rw [HWL.out]; rintro e w5 ⟨rfl, hb5⟩
           have hW5 := hWA.below hb5
           have hb05 := hb04.trans (hb5.mono hb04.size)))
      go_loopw [11] (fun i wr => ∃ j' : Nat, j' ≤ n ∧ i = .int .i64 j' ∧ WordsAt wr g j' W ∧ Below w.heap.size w wr) (fun i _ => n - (intOf i).toNat)
      case atStart => exact ⟨0, Nat.zero_le _, rfl, hW5, hb05⟩
      case round =>
        clear hb05 hW5 hbr hmr
        obtain ⟨q, hq, rfl, hWr, hbr⟩ := hrel
        by_cases hqn : q < n
        · have K : q < ss.length := by rw [HL.out]; exact hqn
          obtain ⟨x, hx, p1, p2⟩ := peek_of K HWT.out
          obtain ⟨y1, y2⟩ := H3.out x hx
          have P1 := Lib.hid p1
          have P2 := Lib.hid p2
          clear p1 p2
          obtain ⟨b, off, rfl, hb, hc⟩ := (hs.below hbr).get K
          have i0 : (0 : Int) ≤ (q : Int) := by omega
          have i1 : (q : Int) < (n : Int) := by omega
          have z1 : decide (x.line < 1) = false := decide_eq_false (by omega)
          have z2 : decide (x.col < 1) = false := decide_eq_false (by omega)
          go_wp2_with (first
            | (go_at_call 15; refine (next_any _ _ _ _ hWr).mono ?_; rw [P1.out, P2.out]; rintro e w6 ⟨rfl, hW6, hg6, _⟩
               have hb06 := hbr.grown hg6 hbr.size (fun k hk => by cases hk; exact hgw)
               obtain ⟨b', off', e', hb7, hc7⟩ := (hs.below hb06).get K
               obtain ⟨rfl, rfl⟩ : b = b' ∧ off = off' := by injection e' with e'; injection e' with e3 e4; exact ⟨e3, e4⟩
               clear e'))
          go_quiet (fail)
          go_wp2_with fail
          go_roundw
          case rel => exact ⟨q + 1, by omega, by go_num, hW6.below (below_drewN ((Below.refl _ w6).alloc (Nat.le_refl _) _) _), below_drewN (hb06.alloc hb06.size _) _⟩
          case measure => simp [intOf]; omega
        · have hd3 : decide ((q : Int) < (n : Int)) = false := decide_eq_false (by omega)
          go_wp2_with (go_at_call 7; refine (alive_any _ (hm.imp fun m h => (hbr.cell (p := ⟨0, 0, none⟩) hlt0).trans h)).mono ?_; rintro e w7 ⟨rfl, hb7⟩)
          go_ret
          exact ⟨rfl, hbr.trans (hb7.mono hbr.size)⟩
end Go.Proofs.YtjolloolinhlnaaDoor
