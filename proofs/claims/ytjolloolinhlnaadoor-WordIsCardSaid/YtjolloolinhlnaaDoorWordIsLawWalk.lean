/-
  WordIs: its walk.
-/
import Derived.Test.YtjolloolinhlnaaDoorWordRef
namespace Go.Proofs.YtjolloolinhlnaaDoor
open Go.RowKit

theorem ref_long {s : ByteArray} {w w' : World} {e : Ending} (h4 : 4000 < s.size) (h : RefSays s w e w') : Below w.heap.size w w' ∧ e = .returned (.tuple #[.slice none 0 0, .int .i64 2, .int .i64 0]) := by
  obtain ⟨hb, (⟨_, he⟩ | ⟨h1, _⟩ | ⟨h1, _⟩)⟩ := h
  · exact ⟨hb, he⟩
  · omega
  · omega
theorem ref_bad {s : ByteArray} {w w' : World} {e : Ending} (h4 : ¬ 4000 < s.size) (hE : cutE 1 (linesL s) ≠ 0) (h : RefSays s w e w') : Below w.heap.size w w' ∧ e = .returned (.tuple #[.slice none 0 0, .int .i64 22, .int .i64 (cutE 1 (linesL s))]) := by
  obtain ⟨hb, (⟨h1, _⟩ | ⟨_, _, he⟩ | ⟨_, h1, _⟩)⟩ := h
  · exact absurd h1 h4
  · exact ⟨hb, he⟩
  · exact absurd h1 hE
theorem ref_ok {s : ByteArray} {w w' : World} {e : Ending} (h4 : ¬ 4000 < s.size) (hE : cutE 1 (linesL s) = 0) (h : RefSays s w e w') : Below w.heap.size w w' ∧ ∃ v, e = .returned (.tuple #[v, .int .i64 0, .int .i64 0]) ∧ w'.ownsRow w.heap.size 48 3 v (cutW 1 (linesL s)).length (wrow (cutW 1 (linesL s))) := by
  obtain ⟨hb, (⟨h1, _⟩ | ⟨_, h1, _⟩ | ⟨_, _, he⟩)⟩ := h
  · exact absurd h1 h4
  · exact absurd hE h1
  · exact ⟨hb, he⟩
theorem one_cell {w : World} {b off : Nat} {x : Wd} (h : Sl w (some ⟨b, off, none⟩) (wrow [x])) : w.cell? ⟨b, off, none⟩ = some (.string ⟨x.text.toArray⟩) := by
  obtain ⟨b', off', e, _, hc⟩ := h.at_ (by simp [wrow, wcells])
  injection e with e
  injection e with e1 e2
  subst e1 e2
  exact hc 0 _ rfl
/-- Words of nothing. -/
theorem words_zero (w : World) : WordsAt (w.alloc (.cells #[.int .i64 0, .slice none 0 0] 58)) w.heap.size 0 [] :=
  ⟨by simp, by simp, by simp, World.cell?_alloc_at _ _ _ _ rfl, World.frozen?_alloc_at _ _ _ _ rfl, none, 0, World.cell?_alloc_at _ _ _ _ rfl, World.frozen?_alloc_at _ _ _ _ rfl, Sl.nil _ _, by simp, fun b off e => by cases e⟩
set_option maxRecDepth 100000 in
set_option maxHeartbeats 4000000 in
theorem walk_WordIs (s : ByteArray) (w : World) (hm : ∃ m : Int, w.cell? ⟨0, 0, none⟩ = some (.int .i64 m)) (hs : s.size ≤ maxLen) :
    Calls Tryd.prog 5 #[.string s] w fun e w' => e = .returned (.bool true) ∧ Below w.heap.size w w' := by
  have hlt0 : 0 < w.heap.size := by obtain ⟨m, h⟩ := hm; have := block_lt_of_cell h; simpa using this
  by_cases g0 : 4100 < s.size
  · unfold maxLen at hs
    go_enter Tryd.func5, Tryd.ntmps5
    go_wp2_with (go_at_call 7; refine (alive_any _ hm).mono ?_; rintro e w1 ⟨rfl, hb1⟩)
    go_ret
    exact ⟨rfl, hb1⟩
  have HS := Lib.hid hs
  unfold maxLen at hs
  by_cases h4 : 4000 < s.size
  · have IW := Lib.hid (isWordB_no (s := s) (fun h => by omega))
    go_enter Tryd.func5, Tryd.ntmps5
    go_wp2_with (first
      | (go_at_call 8; refine (refCut_any s _ HS.out).mono ?_; rintro e w1 h1; obtain ⟨hb1, rfl⟩ := ref_long h4 h1)
      | (go_at_call 15; refine (next_nil _).mono ?_; rw [show zeroWord = .agg #[.string ByteArray.empty, .int .i64 0, .int .i64 0] from rfl]; rintro e w2 ⟨rfl, hb2⟩
         have hZ2 := (words_zero w1).below hb2
         have hb02 := (hb1.alloc hb1.size (.cells #[.int .i64 0, .slice none 0 0] 58)).trans (hb2.mono (by have := hb1.size; simp; omega))
         have hZ2a := hZ2.below ((Below.refl _ w2).alloc (Nat.le_refl _) (.cells #[.string ByteArray.empty, .int .i64 0, .int .i64 0] 44))
         have hb02a := hb02.alloc hb02.size (.cells #[.string ByteArray.empty, .int .i64 0, .int .i64 0] 44))
      | (go_at_call 11; refine (peek_any _ _ _ _ hZ2a).mono ?_; rw [show peekV 0 [] = .tuple #[.agg #[.string ByteArray.empty, .int .i64 0, .int .i64 0], .bool false] from rfl]; rintro e w3 ⟨rfl, hb3⟩
         have hZ3 := (hZ2a.below hb3).below ((Below.refl _ w3).alloc (Nat.le_refl _) (.cells #[.string ByteArray.empty, .int .i64 0, .int .i64 0] 44))
         have hb03 := (hb02a.trans (hb3.mono hb02a.size)).alloc (hb02a.trans (hb3.mono hb02a.size)).size (.cells #[.string ByteArray.empty, .int .i64 0, .int .i64 0] 44))
      | (go_at_call 7; refine (alive_any _ (hm.imp fun m h => (hb03.cell (p := ⟨0, 0, none⟩) hlt0).trans h)).mono ?_; rintro e w4 ⟨rfl, hb4⟩
         have hZ4 := hZ3.below hb4
         have hb04 := hb03.trans (hb4.mono hb03.size))
      | (go_at_call 17; refine (is_any s _ HS.out (hm.imp fun m h => (hb04.cell (p := ⟨0, 0, none⟩) hlt0).trans h)).mono ?_; rw [IW.out]; rintro e w5 ⟨rfl, hb5⟩
         have hZ5 := hZ4.below hb5
         have hb05 := hb04.trans (hb5.mono hb04.size))
      | (go_at_call_of 13 (Value.pointer none); refine (line_nil _).mono ?_; rintro e w6 ⟨rfl, hb6⟩
         have hZ6 := hZ5.below hb6
         have hb06 := hb05.trans (hb6.mono hb05.size))
      | (go_at_call_of 10 (Value.pointer none); refine (len_nil _).mono ?_; rintro e w6' ⟨rfl, rfl⟩)
      | (go_at_call 10; refine (len_any _ _ _ _ hZ6).mono ?_; rintro e w7 ⟨rfl, hb7⟩
         have hZ7 := hZ6.below hb7
         have hb07 := hb06.trans (hb7.mono hb06.size))
      | (go_at_call 13; refine (lineOf_any _ _ _ _ hZ7).mono ?_; rw [show lineOf 0 [] = [] from rfl]; rintro e w8 ⟨v8, rfl, hown8, hZ8, hg8⟩
         obtain ⟨A8, c8, rfl, _, _⟩ := own_slice hown8
         have hb08 := hb07.grown hg8 hb07.size (fun k hk => by cases hk; exact hb1.size)))
    go_ret
    exact ⟨rfl, hb08⟩
  by_cases hE : cutE 1 (linesL s) = 0
  rotate_left
  · have IW := Lib.hid (isWordB_no (s := s) (fun h => hE h.2.1))
    go_enter Tryd.func5, Tryd.ntmps5
    go_wp2_with (first
      | (go_at_call 8; refine (refCut_any s _ HS.out).mono ?_; rintro e w1 h1; obtain ⟨hb1, rfl⟩ := ref_bad h4 hE h1)
      | (go_at_call 15; refine (next_nil _).mono ?_; rw [show zeroWord = .agg #[.string ByteArray.empty, .int .i64 0, .int .i64 0] from rfl]; rintro e w2 ⟨rfl, hb2⟩
         have hZ2 := (words_zero w1).below hb2
         have hb02 := (hb1.alloc hb1.size (.cells #[.int .i64 0, .slice none 0 0] 58)).trans (hb2.mono (by have := hb1.size; simp; omega))
         have hZ2a := hZ2.below ((Below.refl _ w2).alloc (Nat.le_refl _) (.cells #[.string ByteArray.empty, .int .i64 0, .int .i64 0] 44))
         have hb02a := hb02.alloc hb02.size (.cells #[.string ByteArray.empty, .int .i64 0, .int .i64 0] 44))
      | (go_at_call 11; refine (peek_any _ _ _ _ hZ2a).mono ?_; rw [show peekV 0 [] = .tuple #[.agg #[.string ByteArray.empty, .int .i64 0, .int .i64 0], .bool false] from rfl]; rintro e w3 ⟨rfl, hb3⟩
         have hZ3 := (hZ2a.below hb3).below ((Below.refl _ w3).alloc (Nat.le_refl _) (.cells #[.string ByteArray.empty, .int .i64 0, .int .i64 0] 44))
         have hb03 := (hb02a.trans (hb3.mono hb02a.size)).alloc (hb02a.trans (hb3.mono hb02a.size)).size (.cells #[.string ByteArray.empty, .int .i64 0, .int .i64 0] 44))
      | (go_at_call 7; refine (alive_any _ (hm.imp fun m h => (hb03.cell (p := ⟨0, 0, none⟩) hlt0).trans h)).mono ?_; rintro e w4 ⟨rfl, hb4⟩
         have hZ4 := hZ3.below hb4
         have hb04 := hb03.trans (hb4.mono hb03.size))
      | (go_at_call 17; refine (is_any s _ HS.out (hm.imp fun m h => (hb04.cell (p := ⟨0, 0, none⟩) hlt0).trans h)).mono ?_; rw [IW.out]; rintro e w5 ⟨rfl, hb5⟩
         have hZ5 := hZ4.below hb5
         have hb05 := hb04.trans (hb5.mono hb04.size))
      | (go_at_call_of 13 (Value.pointer none); refine (line_nil _).mono ?_; rintro e w6 ⟨rfl, hb6⟩
         have hZ6 := hZ5.below hb6
         have hb06 := hb05.trans (hb6.mono hb05.size))
      | (go_at_call_of 10 (Value.pointer none); refine (len_nil _).mono ?_; rintro e w6' ⟨rfl, rfl⟩)
      | (go_at_call 10; refine (len_any _ _ _ _ hZ6).mono ?_; rintro e w7 ⟨rfl, hb7⟩
         have hZ7 := hZ6.below hb7
         have hb07 := hb06.trans (hb7.mono hb06.size))
      | (go_at_call 13; refine (lineOf_any _ _ _ _ hZ7).mono ?_; rw [show lineOf 0 [] = [] from rfl]; rintro e w8 ⟨v8, rfl, hown8, hZ8, hg8⟩
         obtain ⟨A8, c8, rfl, _, _⟩ := own_slice hown8
         have hb08 := hb07.grown hg8 hb07.size (fun k hk => by cases hk; exact hb1.size)))
    go_ret
    exact ⟨rfl, hb08⟩
  obtain ⟨L, hL⟩ : ∃ L, L = cutW 1 (linesL s) := ⟨_, rfl⟩
  have HL := Lib.hid hL
  clear hL
  by_cases hl : L.length = 1
  · obtain ⟨x, rfl⟩ := List.length_eq_one_iff.1 hl
    obtain ⟨tb, htb⟩ : ∃ tb : ByteArray, tb = ⟨x.text.toArray⟩ := ⟨_, rfl⟩
    have IW0 := isWordB_one (by omega) hE HL.out.symm
    rw [← htb, ← eq_texts] at IW0
    have HTB := Lib.hid htb
    clear htb
    obtain ⟨bb, hbb⟩ : ∃ bb, bb = (tb.toList == s.toList) := ⟨_, rfl⟩
    rw [← hbb] at IW0
    have IW := Lib.hid IW0
    have hbq := hbb.symm
    clear IW0 hbb
    have hbq2 : bb = true ↔ tb = s := by rw [← hbq, eq_texts]; simp
    have hbq3 : bb = true ↔ tb.toList = s.toList := by rw [← hbq]; simp
    cases bb
    all_goals
      simp only [Bool.false_eq_true, false_iff, true_iff] at hbq2 hbq3
      go_enter Tryd.func5, Tryd.ntmps5
      go_wp2_with (first
        | (go_at_call 8; refine (refCut_any s _ HS.out).mono ?_; rintro e w1 h1; obtain ⟨hb1, v, rfl, hown⟩ := ref_ok h4 hE h1; rw [← HL.out] at hown; obtain ⟨Am, cm, rfl, _, hsm⟩ := own_slice hown; obtain ⟨bm, om, rfl, _, _⟩ := hsm.at_ (by simp [wrow, wcells]))
        | (go_at_call 15; refine (next_nil _).mono ?_; rw [show zeroWord = .agg #[.string ByteArray.empty, .int .i64 0, .int .i64 0] from rfl]; rintro e w2 ⟨rfl, hb2⟩
           have hZ2 := (words_zero w1).below hb2
           have hb02 := (hb1.alloc hb1.size (.cells #[.int .i64 0, .slice none 0 0] 58)).trans (hb2.mono (by have := hb1.size; simp; omega))
           have hZ2a := hZ2.below ((Below.refl _ w2).alloc (Nat.le_refl _) (.cells #[.string ByteArray.empty, .int .i64 0, .int .i64 0] 44))
           have hb02a := hb02.alloc hb02.size (.cells #[.string ByteArray.empty, .int .i64 0, .int .i64 0] 44))
        | (go_at_call 11; refine (peek_any _ _ _ _ hZ2a).mono ?_; rw [show peekV 0 [] = .tuple #[.agg #[.string ByteArray.empty, .int .i64 0, .int .i64 0], .bool false] from rfl]; rintro e w3 ⟨rfl, hb3⟩
           have hZ3 := (hZ2a.below hb3).below ((Below.refl _ w3).alloc (Nat.le_refl _) (.cells #[.string ByteArray.empty, .int .i64 0, .int .i64 0] 44))
           have hb03 := (hb02a.trans (hb3.mono hb02a.size)).alloc (hb02a.trans (hb3.mono hb02a.size)).size (.cells #[.string ByteArray.empty, .int .i64 0, .int .i64 0] 44))
        | (go_at_call 7; refine (alive_any _ (hm.imp fun m h => (hb03.cell (p := ⟨0, 0, none⟩) hlt0).trans h)).mono ?_; rintro e w4 ⟨rfl, hb4⟩
           have hZ4 := hZ3.below hb4
           have hb04 := hb03.trans (hb4.mono hb03.size))
        | (go_at_call 17; refine (is_any s _ HS.out (hm.imp fun m h => (hb04.cell (p := ⟨0, 0, none⟩) hlt0).trans h)).mono ?_; rw [IW.out]; rintro e w5 ⟨rfl, hb5⟩
           have hZ5 := hZ4.below hb5
           have hb05 := hb04.trans (hb5.mono hb04.size)
           have hs5 := ((((((hsm.alloc _).below hb2).alloc _).below hb3).alloc _).below hb4).below hb5
           have zm := one_cell hs5
           rw [← HTB.out] at zm)
        | (go_at_call_of 13 (Value.pointer none); refine (line_nil _).mono ?_; rintro e w6 ⟨rfl, hb6⟩
           have hZ6 := hZ5.below hb6
           have hb06 := hb05.trans (hb6.mono hb05.size))
        | (go_at_call_of 10 (Value.pointer none); refine (len_nil _).mono ?_; rintro e w6' ⟨rfl, rfl⟩)
        | (go_at_call 10; refine (len_any _ _ _ _ hZ6).mono ?_; rintro e w7 ⟨rfl, hb7⟩
           have hZ7 := hZ6.below hb7
           have hb07 := hb06.trans (hb7.mono hb06.size))
        | (go_at_call 13; refine (lineOf_any _ _ _ _ hZ7).mono ?_; rw [show lineOf 0 [] = [] from rfl]; rintro e w8 ⟨v8, rfl, hown8, hZ8, hg8⟩
           obtain ⟨A8, c8, rfl, _, _⟩ := own_slice hown8
           have hb08 := hb07.grown hg8 hb07.size (fun k hk => by cases hk; exact hb1.size)))
      go_ret
      exact ⟨rfl, hb08⟩
  · have IW := Lib.hid (isWordB_no (s := s) (fun h => hl (by rw [HL.out]; exact h.2.2)))
    have hz : ((L.length : Int) == 1) = false := beq_eq_false_iff_ne.2 (by omega)
    go_enter Tryd.func5, Tryd.ntmps5
    go_wp2_with (first
      | (go_at_call 8; refine (refCut_any s _ HS.out).mono ?_; rintro e w1 h1; obtain ⟨hb1, v, rfl, hown⟩ := ref_ok h4 hE h1; rw [← HL.out] at hown; obtain ⟨Am, cm, rfl, _, hsm⟩ := own_slice hown)
      | (go_at_call 15; refine (next_nil _).mono ?_; rw [show zeroWord = .agg #[.string ByteArray.empty, .int .i64 0, .int .i64 0] from rfl]; rintro e w2 ⟨rfl, hb2⟩
         have hZ2 := (words_zero w1).below hb2
         have hb02 := (hb1.alloc hb1.size (.cells #[.int .i64 0, .slice none 0 0] 58)).trans (hb2.mono (by have := hb1.size; simp; omega))
         have hZ2a := hZ2.below ((Below.refl _ w2).alloc (Nat.le_refl _) (.cells #[.string ByteArray.empty, .int .i64 0, .int .i64 0] 44))
         have hb02a := hb02.alloc hb02.size (.cells #[.string ByteArray.empty, .int .i64 0, .int .i64 0] 44))
      | (go_at_call 11; refine (peek_any _ _ _ _ hZ2a).mono ?_; rw [show peekV 0 [] = .tuple #[.agg #[.string ByteArray.empty, .int .i64 0, .int .i64 0], .bool false] from rfl]; rintro e w3 ⟨rfl, hb3⟩
         have hZ3 := (hZ2a.below hb3).below ((Below.refl _ w3).alloc (Nat.le_refl _) (.cells #[.string ByteArray.empty, .int .i64 0, .int .i64 0] 44))
         have hb03 := (hb02a.trans (hb3.mono hb02a.size)).alloc (hb02a.trans (hb3.mono hb02a.size)).size (.cells #[.string ByteArray.empty, .int .i64 0, .int .i64 0] 44))
      | (go_at_call 7; refine (alive_any _ (hm.imp fun m h => (hb03.cell (p := ⟨0, 0, none⟩) hlt0).trans h)).mono ?_; rintro e w4 ⟨rfl, hb4⟩
         have hZ4 := hZ3.below hb4
         have hb04 := hb03.trans (hb4.mono hb03.size))
      | (go_at_call 17; refine (is_any s _ HS.out (hm.imp fun m h => (hb04.cell (p := ⟨0, 0, none⟩) hlt0).trans h)).mono ?_; rw [IW.out]; rintro e w5 ⟨rfl, hb5⟩
         have hZ5 := hZ4.below hb5
         have hb05 := hb04.trans (hb5.mono hb04.size))
      | (go_at_call_of 13 (Value.pointer none); refine (line_nil _).mono ?_; rintro e w6 ⟨rfl, hb6⟩
         have hZ6 := hZ5.below hb6
         have hb06 := hb05.trans (hb6.mono hb05.size))
      | (go_at_call_of 10 (Value.pointer none); refine (len_nil _).mono ?_; rintro e w6' ⟨rfl, rfl⟩)
      | (go_at_call 10; refine (len_any _ _ _ _ hZ6).mono ?_; rintro e w7 ⟨rfl, hb7⟩
         have hZ7 := hZ6.below hb7
         have hb07 := hb06.trans (hb7.mono hb06.size))
      | (go_at_call 13; refine (lineOf_any _ _ _ _ hZ7).mono ?_; rw [show lineOf 0 [] = [] from rfl]; rintro e w8 ⟨v8, rfl, hown8, hZ8, hg8⟩
         obtain ⟨A8, c8, rfl, _, _⟩ := own_slice hown8
         have hb08 := hb07.grown hg8 hb07.size (fun k hk => by cases hk; exact hb1.size)))
    go_ret
    exact ⟨rfl, hb08⟩
end Go.Proofs.YtjolloolinhlnaaDoor
