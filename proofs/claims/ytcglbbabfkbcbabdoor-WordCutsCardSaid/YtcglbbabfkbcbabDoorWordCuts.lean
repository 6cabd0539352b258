/-
  WordCuts, the walk.
-/
import Derived.Test.YtcglbbabfkbcbabDoorWordCutsA
import Derived.Deep.DeepCutAuto
import Derived.Deep.RegionHeld3
import Derived.StillTailTactics
namespace Go.Proofs.YtcglbbabfkbcbabDoor
open Go.RowKit Go.Deep

theorem refs_bad {s : ByteArray} {w w' : World} {e : Ending} (hE : 4000 < s.size ∨ cutE 1 (linesL s) ≠ 0) (h : RefSays s w e w') : Below w.heap.size w w' ∧ e = .returned (.tuple #[.slice none 0 0, .int .i64 (if 4000 < s.size then 2 else 22), .int .i64 (if 4000 < s.size then 0 else cutE 1 (linesL s))]) := by
  obtain ⟨hb, ⟨h1, he⟩ | ⟨h1, h2, he⟩ | ⟨h1, h2, v, he, hown⟩⟩ := h
  · rw [if_pos h1, if_pos h1]; exact ⟨hb, he⟩
  · rw [if_neg (by omega), if_neg (by omega)]; exact ⟨hb, he⟩
  · rcases hE with h | h
    · omega
    · exact absurd h2 h
theorem cuts_bad {s : ByteArray} {w w' : World} {e : Ending} (hE : 4000 < s.size ∨ cutE 1 (linesL s) ≠ 0) (h : CutSays s w e w') : Below w.heap.size w w' ∧ e = .returned (.tuple #[.pointer none, .int .i64 (if 4000 < s.size then 2 else 22), .int .i64 (if 4000 < s.size then 0 else cutE 1 (linesL s))]) := by
  obtain ⟨hb, ⟨h1, he⟩ | ⟨h1, h2, he⟩ | ⟨h1, h2, v, he, hown⟩⟩ := h
  · rw [if_pos h1, if_pos h1]; exact ⟨hb, he⟩
  · rw [if_neg (by omega), if_neg (by omega)]; exact ⟨hb, he⟩
  · rcases hE with h | h
    · omega
    · exact absurd h2 h
theorem refs_ok {s : ByteArray} {w w' : World} {e : Ending} (h4 : s.size ≤ 4000) (hE : cutE 1 (linesL s) = 0) (h : RefSays s w e w') : Below w.heap.size w w' ∧ ∃ v, e = .returned (.tuple #[v, .int .i64 0, .int .i64 0]) ∧ w'.ownsRow w.heap.size 48 3 v (cutW 1 (linesL s)).length (wrow (cutW 1 (linesL s))) := by
  obtain ⟨hb, ⟨h1, _⟩ | ⟨_, h2, _⟩ | ⟨_, _, v, he, hown⟩⟩ := h
  · omega
  · exact absurd hE h2
  · exact ⟨hb, v, he, hown⟩
theorem cuts_ok {s : ByteArray} {w w' : World} {e : Ending} (h4 : s.size ≤ 4000) (hE : cutE 1 (linesL s) = 0) (h : CutSays s w e w') : Below w.heap.size w w' ∧ ∃ g, w.heap.size ≤ g ∧ e = .returned (.tuple #[.pointer (some ⟨g, 0, none⟩), .int .i64 0, .int .i64 0]) ∧ WordsAt w' g 0 (cutW 1 (linesL s)) := by
  obtain ⟨hb, ⟨h1, _⟩ | ⟨_, h2, _⟩ | ⟨_, _, g, hg, he, hown⟩⟩ := h
  · omega
  · exact absurd hE h2
  · exact ⟨hb, g, hg, he, hown⟩
/-- A word in its box and another one in its list. -/
structure PkS (w1 w : World) (bx b2 o2 : Nat) (t : ByteArray) (l c : Int) : Prop where
  x : Bx w bx 44 #[.string t, .int .i64 l, .int .i64 c]
  lt : b2 < w1.heap.size
  m0 : w.cell? ⟨b2, o2, none⟩ = some (.string t)
  m1 : w.cell? ⟨b2, o2 + 1, none⟩ = some (.int .i64 l)
  m2 : w.cell? ⟨b2, o2 + 2, none⟩ = some (.int .i64 c)
  bel : Below w1.heap.size w1 w
theorem PkS.below {w1 w w' : World} {bx b2 o2 : Nat} {t : ByteArray} {l c : Int} (h : PkS w1 w bx b2 o2 t l c) (hb : Below w.heap.size w w') : PkS w1 w' bx b2 o2 t l c :=
  have hl := Nat.lt_of_lt_of_le h.lt h.bel.size
  ⟨h.x.below hb, h.lt, (hb.cell (p := ⟨b2, o2, none⟩) hl).trans h.m0, (hb.cell (p := ⟨b2, o2 + 1, none⟩) hl).trans h.m1, (hb.cell (p := ⟨b2, o2 + 2, none⟩) hl).trans h.m2, h.bel.trans (hb.mono h.bel.size)⟩
theorem PkS.full {w1 w : World} {bx b2 o2 : Nat} {t : ByteArray} {l c : Int} (h : PkS w1 w bx b2 o2 t l c) : PkS w1 w bx b2 o2 t l c ∧ w.cell? ⟨bx, 0, none⟩ = some (.string t) ∧ w.cell? ⟨bx, 1, none⟩ = some (.int .i64 l) ∧ w.cell? ⟨bx, 2, none⟩ = some (.int .i64 c) ∧ w.cell? ⟨b2, o2, none⟩ = some (.string t) ∧ w.cell? ⟨b2, o2 + 1, none⟩ = some (.int .i64 l) ∧ w.cell? ⟨b2, o2 + 2, none⟩ = some (.int .i64 c) :=
  ⟨h, h.x.at_ 0 rfl, h.x.at_ 1 rfl, h.x.at_ 2 rfl, h.m0, h.m1, h.m2⟩
theorem first_word {w : World} {A : Option Addr} {B0 a : Nat} {mv : Value} {ws : List Wd} (h : From A B0 a mv ws) (hr : w.ownsRow B0 48 3 mv ws.length (wrow ws)) (ha : a < ws.length) : ∃ b o, A = some ⟨b, o, none⟩ ∧ b < w.heap.size ∧ WdCells w b o ws[a] := by
  obtain ⟨b, o, e, hb, hc⟩ := sl_word (h w hr) (j := 0) (by rw [List.length_drop]; omega)
  have e2 : (ws.drop a)[0]'(by rw [List.length_drop]; omega) = ws[a] := by rw [List.getElem_drop]; simp
  rw [e2, Nat.zero_mul, Nat.add_zero] at hc
  exact ⟨b, o, e, hb, hc⟩
theorem WdCells.below {w w' : World} {b o : Nat} {x : Wd} (h : WdCells w b o x) (hl : b < w.heap.size) (hb : Below w.heap.size w w') : WdCells w' b o x :=
  ⟨(hb.cell (p := ⟨b, o, none⟩) hl).trans h.c0, (hb.cell (p := ⟨b, o + 1, none⟩) hl).trans h.c1, (hb.cell (p := ⟨b, o + 2, none⟩) hl).trans h.c2⟩
theorem nth_word {w : World} {A : Option Addr} {B0 a t : Nat} {mv : Value} {ws : List Wd} (h : From A B0 a mv ws) (hr : w.ownsRow B0 48 3 mv ws.length (wrow ws)) (ha : a + t < ws.length) : ∃ b o, A = some ⟨b, o, none⟩ ∧ b < w.heap.size ∧ WdCells w b (o + t * 3) ws[a + t] := by
  obtain ⟨b, o, e, hb, hc⟩ := sl_word (h w hr) (j := t) (by rw [List.length_drop]; omega)
  have e2 : (ws.drop a)[t]'(by rw [List.length_drop]; omega) = ws[a + t] := by rw [List.getElem_drop]
  rw [e2] at hc
  exact ⟨b, o, e, hb, hc⟩
theorem lineOf_len (a : Nat) (ws : List Wd) : (lineOf a ws).length ≤ ws.length - a := by
  unfold lineOf
  split
  · next x _ =>
    have := (List.takeWhile_sublist (fun y : Wd => decide (y.line = x.line)) (l := ws.drop a)).length_le
    rw [List.length_drop] at this; exact this
  · simp
theorem line_word {w : World} {A : Option Addr} {B a t u c : Nat} {ws : List Wd} (h : w.ownsRow B 44 3 (.slice A t c) t (wrow (lineOf a ws))) (hl : lineOf a ws = (ws.drop a).take t) (ha : a + u < ws.length) (hu : u < t) : ∃ b o, A = some ⟨b, o, none⟩ ∧ b < w.heap.size ∧ WdCells w b (o + u * 3) ws[a + u] := by
  obtain ⟨A', c', e, hs⟩ := bk_sl h
  cases e
  rw [hl] at hs
  have hlen : u < ((ws.drop a).take t).length := by rw [List.length_take, List.length_drop]; omega
  obtain ⟨b, o, e, hb, hc⟩ := sl_word hs (j := u) hlen
  have e2 : ((ws.drop a).take t)[u]'hlen = ws[a + u] := by rw [List.getElem_take, List.getElem_drop]
  rw [e2] at hc
  exact ⟨b, o, e, hb, hc⟩
/-- A word in one list and the same one in another. -/
structure PqS (w1 w : World) (b6 p6 b2 p2 : Nat) (x : Wd) : Prop where
  l : WdCells w b6 p6 x
  m : WdCells w b2 p2 x
  lt6 : b6 < w1.heap.size
  lt2 : b2 < w1.heap.size
  bel : Below w1.heap.size w1 w
theorem PqS.below {w1 w w' : World} {b6 p6 b2 p2 : Nat} {x : Wd} (h : PqS w1 w b6 p6 b2 p2 x) (hb : Below w.heap.size w w') : PqS w1 w' b6 p6 b2 p2 x :=
  ⟨h.l.below (Nat.lt_of_lt_of_le h.lt6 h.bel.size) hb, h.m.below (Nat.lt_of_lt_of_le h.lt2 h.bel.size) hb, h.lt6, h.lt2, h.bel.trans (hb.mono h.bel.size)⟩
theorem PqS.full {w1 w : World} {b6 p6 b2 p2 : Nat} {x : Wd} (h : PqS w1 w b6 p6 b2 p2 x) : PqS w1 w b6 p6 b2 p2 x ∧ w.cell? ⟨b6, p6, none⟩ = some (.string ⟨x.text.toArray⟩) ∧ w.cell? ⟨b6, p6 + 1, none⟩ = some (.int .i64 x.line) ∧ w.cell? ⟨b6, p6 + 2, none⟩ = some (.int .i64 x.col) ∧ w.cell? ⟨b2, p2, none⟩ = some (.string ⟨x.text.toArray⟩) ∧ w.cell? ⟨b2, p2 + 1, none⟩ = some (.int .i64 x.line) ∧ w.cell? ⟨b2, p2 + 2, none⟩ = some (.int .i64 x.col) :=
  ⟨h, h.l.c0, h.l.c1, h.l.c2, h.m.c0, h.m.c1, h.m.c2⟩
theorem from_one {A : Option Addr} {B0 a r c : Nat} {mv : Value} {ws : List Wd} (h : From A B0 a mv ws) (hr : a + r = ws.length) (hk : 0 < r) (hc : r ≤ c) :
    ∃ A2, (∀ W, (Instr.slice 24 (.slice A r c) (some (.int .i64 1)) none none).run Tryd.prog W = .ok (.slice A2 (r - 1) (c - 1)) W) ∧ From A2 B0 (a + 1) mv ws :=
  from_cut (k := 1) h hr (by omega) hc
theorem peekV_none {a : Nat} {ws : List Wd} (h : ws.length ≤ a) : peekV a ws = .tuple #[.agg #[.string ByteArray.empty, .int .i64 0, .int .i64 0], .bool false] := by
  unfold peekV; rw [List.getElem?_eq_none h]; rfl
theorem peekV_some {a : Nat} {ws : List Wd} (h : a < ws.length) : peekV a ws = .tuple #[.agg #[.string ⟨ws[a].text.toArray⟩, .int .i64 ws[a].line, .int .i64 ws[a].col], .bool true] := by
  unfold peekV; rw [List.getElem?_eq_getElem h]; rfl
set_option linter.unusedSimpArgs false in
set_option maxRecDepth 100000 in
set_option maxHeartbeats 4000000 in
theorem walk_WordCuts (s : ByteArray) (hs : s.size ≤ maxLen) (A : Option Addr) (n cap : Nat) (zs : List Int) (w : World) (hz : Ints w .i64 A n zs) (hm : ∃ m : Int, w.cell? ⟨0, 0, none⟩ = some (.int .i64 m)) :
    Calls Tryd.prog 3 #[.string s, .slice A n cap] w fun e w' => e = .returned (.bool true) ∧ Below w.heap.size w w' := by
  have hlt0 : 0 < w.heap.size := by obtain ⟨m, h⟩ := hm; have := block_lt_of_cell h; simpa using this
  have HALIVE := Lib.hid (fun W (hW : Below w.heap.size w W) => alive_any W (hm.imp fun m h => (hW.cell (p := ⟨0, 0, none⟩) hlt0).trans h))
  have HM0 := Lib.hid (fun W (hW : Below w.heap.size w W) => hm.imp fun m h => (hW.cell (p := ⟨0, 0, none⟩) hlt0).trans h)
  have HS := Lib.hid hs
  have HZ := Lib.hid hz
  have hn := hz.n_le
  unfold maxLen at hs hn
  clear hm hz hlt0
  by_cases g0 : 4100 < s.size
  · go_enter Tryd.func3, Tryd.ntmps3
    go_wp2_with (go_at_call 4; refine (HALIVE.out _ (Below.refl _ _)).mono ?_; rintro e w1 ⟨rfl, hb1⟩)
    go_ret
    exact ⟨rfl, hb1⟩
  by_cases g1 : 200 < n
  · go_enter Tryd.func3, Tryd.ntmps3
    go_wp2_with (go_at_call 4; refine (HALIVE.out _ (Below.refl _ _)).mono ?_; rintro e w1 ⟨rfl, hb1⟩)
    go_ret
    exact ⟨rfl, hb1⟩
  by_cases hE : 4000 < s.size ∨ cutE 1 (linesL s) ≠ 0
  · have HE := Lib.hid hE
    obtain ⟨ec, hec⟩ : ∃ ec : Int, (if 4000 < s.size then 2 else 22) = ec := ⟨_, rfl⟩
    obtain ⟨lc, hlc⟩ : ∃ lc : Int, (if 4000 < s.size then 0 else cutE 1 (linesL s)) = lc := ⟨_, rfl⟩
    have h1 : (ec != ec) = false := bne_self_eq_false _
    have h2 : (lc != lc) = false := bne_self_eq_false _
    have h3 : (ec == 0) = false := beq_eq_false_iff_ne.2 (by rw [← hec]; split <;> decide)
    have HR := Lib.hid (fun W => refCut_any s W HS.out)
    have HC := Lib.hid (fun W hW => cut_any s W HS.out (HM0.out W hW))
    have HB1 := Lib.hid (fun (W W' : World) (e : Ending) => refs_bad (s := s) (w := W) (w' := W') (e := e) hE)
    have HB2 := Lib.hid (fun (W W' : World) (e : Ending) => cuts_bad (s := s) (w := W) (w' := W') (e := e) hE)
    rw [hec, hlc] at HB1 HB2
    clear hE hec hlc
    go_enter Tryd.func3, Tryd.ntmps3
    go_wp2_with (first
      | (go_at_call 5; refine (HR.out _).mono ?_; rintro e w1 h1; obtain ⟨hb1, rfl⟩ := HB1.out _ _ _ h1; clear h1)
      | (go_at_call 6; refine (HC.out _ hb1).mono ?_; rintro e w2 h2; obtain ⟨hb2, rfl⟩ := HB2.out _ _ _ h2; clear h2
         have hb12 := hb1.trans (hb2.mono hb1.size))
      | (go_at_call 4; refine (HALIVE.out _ hb12).mono ?_; rintro e w3 ⟨rfl, hb3⟩))
    go_ret
    exact ⟨rfl, hb12.trans (hb3.mono hb12.size)⟩
  have h4 : s.size ≤ 4000 := by omega
  have hE0 : cutE 1 (linesL s) = 0 := by
    rcases Classical.em (cutE 1 (linesL s) = 0) with h | h
    · exact h
    · exact absurd (.inr h) hE
  have HB1 := Lib.hid (fun (W W' : World) (e : Ending) => refs_ok (w := W) (w' := W') (e := e) h4 hE0)
  have HB2 := Lib.hid (fun (W W' : World) (e : Ending) => cuts_ok (w := W) (w' := W') (e := e) h4 hE0)
  have hfew := cutW_few s
  have HR := Lib.hid (fun W => refCut_any s W HS.out)
  have HC := Lib.hid (fun W hW => cut_any s W HS.out (HM0.out W hW))
  generalize cutW 1 (linesL s) = ws at *
  have hwl : ws.length ≤ 4000 := by omega
  clear hE hE0 hfew
  go_enter Tryd.func3, Tryd.ntmps3
  go_upto_region 9 with (first
    | (go_at_call 5; refine (HR.out _).mono ?_; rintro e w1 h1; obtain ⟨hb1, mv, rfl, hrow1⟩ := HB1.out _ _ _ h1; clear h1)
    | (go_at_call 6; refine (HC.out _ hb1).mono ?_; rintro e w2 h2; obtain ⟨hb2, g, hg1, rfl, hW2⟩ := HB2.out _ _ _ h2; clear h2))
  obtain ⟨Am0, cm0, hmv, hmc, hF0⟩ := from_start hrow1
  have hmvg : ∀ q, mv.ownBlock = some q → q < g := fun q hq => by have := (hrow1.lt q hq).2; omega
  subst hmv
  have hg0 : w.heap.size ≤ g := Nat.le_trans hb1.size hg1
  have hrow2 := bk_below hrow1 hb2
  have hb12 := hb1.trans (hb2.mono hb1.size)
  have hgl := hW2.lt
  have hba := (Below.refl w2.heap.size w2).alloc (Nat.le_refl _) (.cells noFs 41)
  have S0 : WcS w w2 _ g w2.heap.size w.heap.size 0 noFs _ ws := ⟨⟨hW2.below hba, grown_of_below hba _, hba.cell (p := ⟨g, 1, none⟩) hgl, hba.frozen (p := ⟨g, 1, none⟩) hgl⟩, bk_below hrow2 hba, Bx.new w2 41 noFs, hb12.trans (hba.mono hb12.size)⟩
  have hBk : w2.heap.size < (w2.alloc (.cells noFs 41)).heap.size := by simp
  have HW2 := Lib.hid hW2
  clear HB1 HB2 HR HC hrow1 hrow2 hb1 hb2 hba hW2
  go_upto_region 10 with fail
  rw [show (.cells #[.slice none 0 0, .slice none 0 0, .slice none 0 0, .slice none 0 0, .slice none 0 0, .slice none 0 0, .slice none 0 0, .slice none 0 0, .slice none 0 0, .slice none 0 0, .slice none 0 0, .slice none 0 0, .slice none 0 0, .slice none 0 0, .slice none 0 0, .slice none 0 0] 41 : Obj) = .cells noFs 41 from rfl]
  obtain ⟨Wb, hWb⟩ : ∃ Wb, Wb = w2.alloc (.cells noFs 41) := ⟨_, rfl⟩
  rw [← hWb] at S0 hBk ⊢
  obtain ⟨bk, hbk⟩ : ∃ bk, bk = w2.heap.size := ⟨_, rfl⟩
  rw [← hbk] at S0 hBk hgl ⊢
  have hbk2 : w2.heap.size ≤ bk := by omega
  have hw2B : w2.heap.size ≤ Wb.heap.size := by omega
  have hww : w.heap.size ≤ w2.heap.size := hb12.size
  clear hWb hbk hb12
  have HF0 := Lib.hid hF0
  have HMV := Lib.hid hmvg
  clear hF0 hmvg
  go_wp2_with fail
  go_loopw [5, 12, 13, 14, 15, 16, 17, 18, 19] (fun m i _ _ _ _ _ _ _ wr => ∃ (j a r : Nat) (Am : Option Addr) (cm : Nat) (fs : Array Value) (ls : List (List Wd)), j ≤ n ∧ i = .int .i64 j ∧ m = .slice Am r cm ∧ Hid (a + r = ws.length) ∧ r ≤ cm ∧ Hid (From Am w.heap.size a (.slice Am0 ws.length cm0) ws) ∧ WcS w w2 wr g bk w.heap.size a fs (.slice Am0 ws.length cm0) ws ∧ BkWords wr Wb.heap.size fs ls ∧ Hid (ls.length ≤ j) ∧ Hid (∀ l ∈ ls, l.length ≤ 50000) ∧ Hid (∀ i, i < 16 → i ≠ 12 → i ≠ 13 → fs[i]? = some (.slice none 0 0)) ∧ Wb.heap.size ≤ wr.heap.size) (fun _ i _ _ _ _ _ _ _ _ => n - (intOf i).toNat)
  case atStart => exact ⟨0, 0, ws.length, Am0, cm0, noFs, [], Nat.zero_le _, rfl, rfl, Lib.hid (by omega), hmc, HF0, S0, bkWords_nil _ _, Lib.hid (by simp), Lib.hid (by simp), Lib.hid (fun i h _ _ => noFs_at i h), Nat.le_refl _⟩
  case round =>
    clear S0
    obtain ⟨j, a, r, Am, cm, fs, ls, hj, rfl, rfl, HAR, hrc, HF, S, HK, HLL, HLF, HFS, hBw⟩ := hrel
    by_cases hlt : j < n
    · have K : j < zs.length := by rw [HZ.out.len]; exact hlt
      have hra : ws.length - a = r := by have := HAR.out; omega
      obtain ⟨b1, o1, rfl, hb1, y1⟩ := (HZ.out.below S.bel).get K
      generalize zs[j]'K = z at *
      have j0 : (0 : Int) ≤ (j : Int) := by omega
      have j1 : (j : Int) < (n : Int) := by omega
      have HLEN := Lib.hid (len_any wr g a ws S.mem.at_)
      rw [hra] at HLEN
      have HRA := Lib.hid hra
      have q1 : (((r : Nat) : Int) != ((r : Nat) : Int)) = false := bne_self_eq_false _
      have HKK := Lib.hid HK
      clear hra HK
      go_upto_region 15 with (go_at_call 7; refine HLEN.out.mono ?_; rintro e w3 ⟨rfl, hb3⟩
                              have S3 := S.below HW2.out hb3
                              have y3 := (hb3.cell (p := ⟨b1, o1 + j, none⟩) hb1).trans y1)
      obtain ⟨q, hq⟩ : ∃ q, bits .and .i64 z 3 = q := ⟨_, rfl⟩
      have hb3D := hb3
      clear y1 hb3 HLEN q1
      by_cases h0 : q = 0
      · subst h0
        rcases Nat.eq_zero_or_pos r with hr | hr
        · have hr0 := hr
          have HPK := Lib.hid (peek_any w3 g a ws S3.mem.at_)
          rw [peekV_none (by have := HAR.out; omega)] at HPK
          have r1 : decide ((0 : Int) < (r : Int)) = false := decide_eq_false (by omega)
          have r3 : decide (0 < r) = false := decide_eq_false (by omega)
          clear hr hr0
          go_upto_region 23 with (go_at_call 8; refine HPK.out.mono ?_; rintro e w4 ⟨rfl, hb4⟩
                                  have S4 := S3.below HW2.out hb4)
          have hba := (Below.refl w4.heap.size w4).alloc (Nat.le_refl _) (.cells #[.string ByteArray.empty, .int .i64 0, .int .i64 0] 44)
          have S5 := S4.below HW2.out hba
          have hbD := hb3D.trans ((hb4.trans (hba.mono hb4.size)).mono hb3D.size)
          have HBD := Lib.hid hbD
          have x5 := (Bx.new w4 44 #[.string ByteArray.empty, .int .i64 0, .int .i64 0])
          have x50 := x5.at_ 0 rfl
          have x51 := x5.at_ 1 rfl
          have x52 := x5.at_ 2 rfl
          clear hba hb4 S4 hbD x5
          generalize w4.alloc (.cells #[.string ByteArray.empty, .int .i64 0, .int .i64 0] 44) = W5 at *
          have hneq : ∀ W, (binOp .neq 44 (.agg #[.string ByteArray.empty, .int .i64 0, .int .i64 0]) (.agg #[.string ByteArray.empty, .int .i64 0, .int .i64 0])).run Tryd.prog W = .ok (.bool false) W := fun W => by kernel_rfl
          go_quiet (fail)
          go_wp2_with fail
          go_roundw
          case rel => exact ⟨j + 1, a, r, Am, cm, fs, ls, by omega, by go_num, rfl, HAR, hrc, HF, S5.below HW2.out (below_drewN (Below.refl _ _) _), HKK.out.below (HBD.out.trans ((below_drewN (Below.refl _ _) _).mono HBD.out.size)), Lib.hid (by have := HLL.out; omega), HLF, HFS, by have := HBD.out.size; simp; omega⟩
          case measure => simp [intOf]; omega
        · have ha : a < ws.length := by have := HAR.out; omega
          have HPK := Lib.hid (peek_any w3 g a ws S3.mem.at_)
          rw [peekV_some ha] at HPK
          obtain ⟨b2, o2, rfl, hb2, C3⟩ := first_word HF.out S3.row ha
          obtain ⟨c30, c31, c32⟩ := C3
          have r1 : decide ((0 : Int) < (r : Int)) = true := decide_eq_true (by omega)
          have r2 : (0 : Int) < (r : Int) := by omega
          have r3 : decide (0 < r) = true := decide_eq_true (by omega)
          generalize ws[a].line = xl at *
          generalize ws[a].col = xc at *
          obtain ⟨xt, hxt⟩ : ∃ xt : ByteArray, xt = ⟨ws[a].text.toArray⟩ := ⟨_, rfl⟩
          rw [← hxt] at HPK c30
          clear hxt
          go_upto_region 23 with (go_at_call 8; refine HPK.out.mono ?_; rintro e w4 ⟨rfl, hb4⟩
                                  have S4 := S3.below HW2.out hb4)
          have hba := (Below.refl w4.heap.size w4).alloc (Nat.le_refl _) (.cells #[.string xt, .int .i64 xl, .int .i64 xc] 44)
          have h35 := hb4.trans (hba.mono hb4.size)
          have S5 := S4.below HW2.out hba
          have P5 : PkS (w4.alloc (.cells #[.string xt, .int .i64 xl, .int .i64 xc] 44)) _ w4.heap.size b2 o2 xt xl xc := ⟨Bx.new w4 44 _, Nat.lt_of_lt_of_le hb2 h35.size, (h35.cell (p := ⟨b2, o2, none⟩) hb2).trans c30, (h35.cell (p := ⟨b2, o2 + 1, none⟩) hb2).trans c31, (h35.cell (p := ⟨b2, o2 + 2, none⟩) hb2).trans c32, Below.refl _ _⟩
          have P5D := P5.below (Below.refl _ _).drew
          have HBD := Lib.hid (hb3D.trans (h35.mono hb3D.size))
          clear hba hb4 S4 h35 c30 c31 c32 HPK S3 y3
          generalize w4.alloc (.cells #[.string xt, .int .i64 xl, .int .i64 xc] 44) = W5 at *
          refine wp_region_held_drew (S := (fun w' => PkS W5 w' w4.heap.size b2 o2 xt xl xc ∧ w'.cell? ⟨w4.heap.size, 0, none⟩ = some (.string xt) ∧ w'.cell? ⟨w4.heap.size, 1, none⟩ = some (.int .i64 xl) ∧ w'.cell? ⟨w4.heap.size, 2, none⟩ = some (.int .i64 xc) ∧ w'.cell? ⟨b2, o2, none⟩ = some (.string xt) ∧ w'.cell? ⟨b2, o2 + 1, none⟩ = some (.int .i64 xl) ∧ w'.cell? ⟨b2, o2 + 2, none⟩ = some (.int .i64 xc))) (by kernel_rfl) ?_ (fun hHeld => ?_)
          · exact P5D.full
          refine wpAnyH_take (i := 0) (oi := _) (v := ?_) rfl (by kernel_rfl) (by kernel_rfl) (by kernel_rfl) (fun _ _ _ h => h) (Or.inl ⟨by rfl, ?y0⟩) (by assumption) ?_
          case y0 => intro w hSw; (try dsimp only at hSw); (go_simp <;> with_reducible rfl)
          try simp only [List.getElem_toArray, List.getElem_cons_succ, List.getElem_cons_zero, Act.put, List.setIfInBounds_toArray, List.set_cons_zero, List.set_cons_succ]
          refine wpAnyH_take (i := 1) (oi := _) (v := ?_) rfl (by kernel_rfl) (by kernel_rfl) (by kernel_rfl) (fun _ _ _ h => h) (Or.inl ⟨by rfl, ?y1⟩) (by assumption) ?_
          case y1 => intro w hSw; (try dsimp only at hSw); (go_simp <;> with_reducible rfl)
          try simp only [List.getElem_toArray, List.getElem_cons_succ, List.getElem_cons_zero, Act.put, List.setIfInBounds_toArray, List.set_cons_zero, List.set_cons_succ]
          refine wpAnyH_take (i := 2) (oi := _) (v := ?_) rfl (by kernel_rfl) (by kernel_rfl) (by kernel_rfl) (fun _ _ _ h => h) (Or.inl ⟨by rfl, ?y2⟩) (by assumption) ?_
          case y2 => intro w hSw; (try dsimp only at hSw); (go_simp <;> with_reducible rfl)
          try simp only [List.getElem_toArray, List.getElem_cons_succ, List.getElem_cons_zero, Act.put, List.setIfInBounds_toArray, List.set_cons_zero, List.set_cons_succ]
          refine wpAnyH_take (i := 3) (oi := _) (v := ?_) rfl (by kernel_rfl) (by kernel_rfl) (by kernel_rfl) (fun _ _ _ h => h) (Or.inl ⟨by rfl, ?y3⟩) (by assumption) ?_
          case y3 => intro w hSw; (try dsimp only at hSw); (go_simp <;> with_reducible rfl)
          try simp only [List.getElem_toArray, List.getElem_cons_succ, List.getElem_cons_zero, Act.put, List.setIfInBounds_toArray, List.set_cons_zero, List.set_cons_succ]
          refine wpAnyH_take (i := 4) (oi := _) (v := ?_) rfl (by kernel_rfl) (by kernel_rfl) (by kernel_rfl) (fun _ _ _ h => h) (Or.inl ⟨by rfl, ?y4⟩) (by assumption) ?_
          case y4 => intro w hSw; (try dsimp only at hSw); (go_simp <;> with_reducible rfl)
          try simp only [List.getElem_toArray, List.getElem_cons_succ, List.getElem_cons_zero, Act.put, List.setIfInBounds_toArray, List.set_cons_zero, List.set_cons_succ]
          refine wpAnyH_take (i := 5) (oi := _) (v := ?_) rfl (by kernel_rfl) (by kernel_rfl) (by kernel_rfl) (fun _ _ _ h => h) (Or.inl ⟨by rfl, ?y5⟩) (by assumption) ?_
          case y5 => intro w hSw; (try dsimp only at hSw); (go_simp <;> with_reducible rfl)
          try simp only [List.getElem_toArray, List.getElem_cons_succ, List.getElem_cons_zero, Act.put, List.setIfInBounds_toArray, List.set_cons_zero, List.set_cons_succ]
          refine wpAnyH_take (i := 6) (oi := _) (v := ?_) rfl (by kernel_rfl) (by kernel_rfl) (by kernel_rfl) (fun _ _ _ h => h) (Or.inl ⟨by rfl, ?y6⟩) (by assumption) ?_
          case y6 => intro w hSw; (try dsimp only at hSw); (go_simp <;> with_reducible rfl)
          try simp only [List.getElem_toArray, List.getElem_cons_succ, List.getElem_cons_zero, Act.put, List.setIfInBounds_toArray, List.set_cons_zero, List.set_cons_succ]
          refine wpAnyH_take (i := 7) (oi := _) (v := ?_) rfl (by kernel_rfl) (by kernel_rfl) (by kernel_rfl) (fun _ _ _ h => h) (Or.inl ⟨by rfl, ?y7⟩) (by assumption) ?_
          case y7 => intro w hSw; (try dsimp only at hSw); (go_simp <;> with_reducible rfl)
          try simp only [List.getElem_toArray, List.getElem_cons_succ, List.getElem_cons_zero, Act.put, List.setIfInBounds_toArray, List.set_cons_zero, List.set_cons_succ]
          refine wpAnyH_take (i := 8) (oi := _) (v := ?_) rfl (by kernel_rfl) (by kernel_rfl) (by kernel_rfl) (fun _ _ _ h => h) (Or.inl ⟨by rfl, ?y8⟩) (by assumption) ?_
          case y8 => intro w hSw; (try dsimp only at hSw); (go_simp <;> with_reducible rfl)
          try simp only [List.getElem_toArray, List.getElem_cons_succ, List.getElem_cons_zero, Act.put, List.setIfInBounds_toArray, List.set_cons_zero, List.set_cons_succ]
          refine wpAnyH_take (i := 9) (oi := _) (v := ?_) rfl (by kernel_rfl) (by kernel_rfl) (by kernel_rfl) (fun _ _ _ h => h) (Or.inl ⟨by rfl, ?y9⟩) (by assumption) ?_
          case y9 => intro w hSw; (try dsimp only at hSw); (go_simp <;> with_reducible rfl)
          try simp only [List.getElem_toArray, List.getElem_cons_succ, List.getElem_cons_zero, Act.put, List.setIfInBounds_toArray, List.set_cons_zero, List.set_cons_succ]
          refine wpAnyH_take (i := 10) (oi := _) (v := ?_) rfl (by kernel_rfl) (by kernel_rfl) (by kernel_rfl) (fun _ _ _ h => h) (Or.inl ⟨by rfl, ?y10⟩) (by assumption) ?_
          case y10 => intro w hSw; (try dsimp only at hSw); (go_simp <;> with_reducible rfl)
          try simp only [List.getElem_toArray, List.getElem_cons_succ, List.getElem_cons_zero, Act.put, List.setIfInBounds_toArray, List.set_cons_zero, List.set_cons_succ]
          refine wpAnyH_take (i := 11) (oi := _) (v := ?_) rfl (by kernel_rfl) (by kernel_rfl) (by kernel_rfl) (fun _ _ _ h => h) (Or.inl ⟨by rfl, ?y11⟩) (by assumption) ?_
          case y11 => intro w hSw; (try dsimp only at hSw); (go_simp <;> with_reducible rfl)
          try simp only [List.getElem_toArray, List.getElem_cons_succ, List.getElem_cons_zero, Act.put, List.setIfInBounds_toArray, List.set_cons_zero, List.set_cons_succ]
          refine wpAnyH_ready (rs := [12]) (by kernel_rfl) (by simp) (AllReadyH.cons (o := _) rfl (fun K hK => ?_) AllReadyH.nil)
          go_simp
          go_split_ands
          go_at_call 9
          refine (same_any xt xl xc _).mono ?_
          rintro e wo ⟨rfl, hbo⟩
          refine hK.out _ _ ?_ (fun hHeld => ?_)
          · go_split_ands; exact PkS.full (PkS.below (by assumption) hbo)
          clear hK K
          try simp only [List.getElem_toArray, List.getElem_cons_succ, List.getElem_cons_zero, Act.put, List.setIfInBounds_toArray, List.set_cons_zero, List.set_cons_succ]
          refine wpAnyH_take (i := 13) (oi := _) (v := ?_) rfl (by kernel_rfl) (by kernel_rfl) (by kernel_rfl) (fun _ _ _ h => h) (Or.inl ⟨by rfl, ?y13⟩) (by assumption) ?_
          case y13 => intro w hSw; (try dsimp only at hSw); (go_simp <;> with_reducible rfl)
          try simp only [List.getElem_toArray, List.getElem_cons_succ, List.getElem_cons_zero, Act.put, List.setIfInBounds_toArray, List.set_cons_zero, List.set_cons_succ]
          refine wpAnyH_take (i := 14) (oi := _) (v := ?_) rfl (by kernel_rfl) (by kernel_rfl) (by kernel_rfl) (fun _ _ _ h => h) (Or.inl ⟨by rfl, ?y14⟩) (by assumption) ?_
          case y14 => intro w hSw; (try dsimp only at hSw); (go_simp <;> with_reducible rfl)
          try simp only [List.getElem_toArray, List.getElem_cons_succ, List.getElem_cons_zero, Act.put, List.setIfInBounds_toArray, List.set_cons_zero, List.set_cons_succ]
          refine wpAnyH_take (i := 15) (oi := _) (v := ?_) rfl (by kernel_rfl) (by kernel_rfl) (by kernel_rfl) (fun _ _ _ h => h) (Or.inl ⟨by rfl, ?y15⟩) (by assumption) ?_
          case y15 => intro w hSw; (try dsimp only at hSw); (go_simp <;> with_reducible rfl)
          try simp only [List.getElem_toArray, List.getElem_cons_succ, List.getElem_cons_zero, Act.put, List.setIfInBounds_toArray, List.set_cons_zero, List.set_cons_succ]
          refine wpAnyH_take (i := 16) (oi := _) (v := ?_) rfl (by kernel_rfl) (by kernel_rfl) (by kernel_rfl) (fun _ _ _ h => h) (Or.inl ⟨by rfl, ?y16⟩) (by assumption) ?_
          case y16 => intro w hSw; (try dsimp only at hSw); (go_simp <;> with_reducible rfl)
          try simp only [List.getElem_toArray, List.getElem_cons_succ, List.getElem_cons_zero, Act.put, List.setIfInBounds_toArray, List.set_cons_zero, List.set_cons_succ]
          refine wpAnyH_take (i := 17) (oi := _) (v := ?_) rfl (by kernel_rfl) (by kernel_rfl) (by kernel_rfl) (fun _ _ _ h => h) (Or.inl ⟨by rfl, ?y17⟩) (by assumption) ?_
          case y17 => intro w hSw; (try dsimp only at hSw); (go_simp <;> with_reducible rfl)
          try simp only [List.getElem_toArray, List.getElem_cons_succ, List.getElem_cons_zero, Act.put, List.setIfInBounds_toArray, List.set_cons_zero, List.set_cons_succ]
          refine wpAnyH_take (i := 18) (oi := _) (v := ?_) rfl (by kernel_rfl) (by kernel_rfl) (by kernel_rfl) (fun _ _ _ h => h) (Or.inl ⟨by rfl, ?y18⟩) (by assumption) ?_
          case y18 => intro w hSw; (try dsimp only at hSw); (go_simp <;> with_reducible rfl)
          try simp only [List.getElem_toArray, List.getElem_cons_succ, List.getElem_cons_zero, Act.put, List.setIfInBounds_toArray, List.set_cons_zero, List.set_cons_succ]
          refine wpAnyH_take (i := 19) (oi := _) (v := ?_) rfl (by kernel_rfl) (by kernel_rfl) (by kernel_rfl) (fun _ _ _ h => h) (Or.inl ⟨by rfl, ?y19⟩) (by assumption) ?_
          case y19 => intro w hSw; (try dsimp only at hSw); (go_simp <;> with_reducible rfl)
          try simp only [List.getElem_toArray, List.getElem_cons_succ, List.getElem_cons_zero, Act.put, List.setIfInBounds_toArray, List.set_cons_zero, List.set_cons_succ]
          refine wpAnyH_take (i := 20) (oi := _) (v := undef) rfl (by kernel_rfl) (by kernel_rfl) (by kernel_rfl) (fun _ _ _ h => h) (Or.inr ⟨by rfl, rfl⟩) (by assumption) ?_
          try simp only [List.getElem_toArray, List.getElem_cons_succ, List.getElem_cons_zero, Act.put, List.setIfInBounds_toArray, List.set_cons_zero, List.set_cons_succ]
          refine wpAnyH_take (i := 21) (oi := _) (v := undef) rfl (by kernel_rfl) (by kernel_rfl) (by kernel_rfl) (fun _ _ _ h => h) (Or.inr ⟨by rfl, rfl⟩) (by assumption) ?_
          try simp only [List.getElem_toArray, List.getElem_cons_succ, List.getElem_cons_zero, Act.put, List.setIfInBounds_toArray, List.set_cons_zero, List.set_cons_succ]
          refine wpAnyH_take (i := 22) (oi := _) (v := undef) rfl (by kernel_rfl) (by kernel_rfl) (by kernel_rfl) (fun _ _ _ h => h) (Or.inr ⟨by rfl, rfl⟩) (by assumption) ?_
          try simp only [List.getElem_toArray, List.getElem_cons_succ, List.getElem_cons_zero, Act.put, List.setIfInBounds_toArray, List.set_cons_zero, List.set_cons_succ]
          refine wpAnyH_take (i := 23) (oi := _) (v := ?_) rfl (by kernel_rfl) (by kernel_rfl) (by kernel_rfl) (fun _ _ _ h => h) (Or.inl ⟨by rfl, ?y23⟩) (by assumption) ?_
          case y23 => intro w hSw; (try dsimp only at hSw); (go_simp <;> with_reducible rfl)
          try simp only [List.getElem_toArray, List.getElem_cons_succ, List.getElem_cons_zero, Act.put, List.setIfInBounds_toArray, List.set_cons_zero, List.set_cons_succ]
          refine wpAnyH_take (i := 24) (oi := _) (v := ?_) rfl (by kernel_rfl) (by kernel_rfl) (by kernel_rfl) (fun _ _ _ h => h) (Or.inl ⟨by rfl, ?y24⟩) (by assumption) ?_
          case y24 => intro w hSw; (try dsimp only at hSw); (go_simp <;> with_reducible rfl)
          try simp only [List.getElem_toArray, List.getElem_cons_succ, List.getElem_cons_zero, Act.put, List.setIfInBounds_toArray, List.set_cons_zero, List.set_cons_succ]
          refine wpAnyH_done (by kernel_rfl) ?_ _
          go_split_ands
          have P6 : PkS W5 wo w4.heap.size b2 o2 xt xl xc := by assumption
          have HB6 := Lib.hid P6.bel
          have HS6 := Lib.hid (S5.below HW2.out P6.bel)
          clear P5 P5D P6 hbo
          go_wp2_with fail
          go_roundw
          case rel => exact ⟨j + 1, a, r, _, cm, fs, ls, by omega, by go_num, rfl, HAR, hrc, HF, HS6.out, HKK.out.below (HBD.out.trans (HB6.out.mono HBD.out.size)), Lib.hid (by have := HLL.out; omega), HLF, HFS, by have := HBD.out.size; have := HB6.out.size; omega⟩
          case measure => simp [intOf]; omega
      · by_cases h1 : q = 1
        · subst h1
          clear h0
          have hgb : bk ≠ g := by omega
          have HK3 := Lib.hid (HKK.out.below hb3D)
          have hgB : g < Wb.heap.size := by omega
          have hB3 : Wb.heap.size ≤ w3.heap.size := by have := hb3D.size; omega
          have hll : (lineOf a ws).length ≤ r := by
            have h1 := lineOf_len a ws
            have := HAR.out; omega
          obtain ⟨L, hL⟩ : ∃ L, L = (lineOf a ws).length := ⟨_, rfl⟩
          have HLL2 := Lib.hid hL
          have HLN := Lib.hid (lineOfK_any w3 g a ws S3.mem.at_)
          rw [← hL] at hll HLN
          have hr4 : r ≤ 4000 := by have := HAR.out; omega
          clear hL
          go_upto_region 28 with (first
            | (go_at_call 10; refine HLN.out.mono ?_; rintro e w6 ⟨v6, rfl, hown6, hW6, hg6, hc6⟩
               have S6 := S3.move HW2.out hW6 hg6 hc6 HMV.out hgb hg0
               obtain ⟨A6, c6, e6, _⟩ := bk_sl hown6
               subst e6
               have HADD := Lib.hid (addWords_any bk Wb.heap.size fs ls (.slice A6 L c6) (lineOf a ws) (cutAt w6 w3.heap.size) w6 (HK3.out.cut hg6 hgB) (cutAt_below hg6.size) S6.k (by rw [cutAt_size hg6.size, ← HLL2.out]; exact hown6) (fun _ _ => ⟨rfl⟩) (by have := HLL.out; omega) (by rw [← HLL2.out]; omega) (by rw [cutAt_size hg6.size]; exact hB3)))
            | (go_at_call 11; refine HADD.out.mono ?_; rintro e w13 ⟨rfl, ⟨fs', K13, BK13, hfs⟩, hst⟩))
          have hsz13 := hst.size
          have hsz6 := hg6.size
          have bel13 : Below w.heap.size w w13 := S6.bel.trans (hst.below (by omega) (by omega) S6.bel.size)
          have S13 : WcS w w2 w13 g bk w.heap.size (a + L) fs' (.slice Am0 ws.length cm0) ws := ⟨S6.mem.stands HW2.out hst hbk2 hw2B, hst.own S6.k S6.row (by decide) (by decide), K13, bel13⟩
          have V13 := hst.own S6.k hown6 (by decide) (by decide)
          have HS13 := Lib.hid S13
          have HV13 := Lib.hid V13
          have HBK13 := Lib.hid BK13
          have HFS13 := Lib.hid hfs
          have HL6 := Lib.hid (show ls.length < 250 from by have := HLL.out; omega)
          have hB13 : Wb.heap.size ≤ w13.heap.size := by omega
          clear hown6 hW6 hg6 hc6 S6 HADD K13 BK13 hfs hst S13 V13 bel13 HLN S3 y3 S
          go_wp2_with fail
          go_loopw [16] (fun k wk => ∃ t : Nat, t ≤ r ∧ k = .int .i64 t ∧ Hid (∀ i, i < t → wline ws[a + i]? = wline ws[a]?) ∧ Below w13.heap.size w13 wk) (fun k _ => r - (intOf k).toNat)
          case atStart => exact ⟨0, Nat.zero_le _, rfl, Lib.hid (fun i h => absurd h (by omega)), Below.refl _ _⟩
          case round =>
            obtain ⟨t, ht, rfl, HLI, hbk⟩ := hrel
            have t0 : (0 : Int) ≤ (t : Int) := by omega
            by_cases hp : t < r
            · have ha : a < ws.length := by have := HAR.out; omega
              have hat : a + t < ws.length := by have := HAR.out; omega
              have HRW := Lib.hid (bk_below HS13.out.row hbk)
              obtain ⟨b2, o2, rfl, hb2, C0⟩ := first_word HF.out HRW.out ha
              obtain ⟨b3, o3, e3, hb3, Ct⟩ := nth_word HF.out HRW.out hat
              injection e3 with e3
              injection e3 with e3 e4
              subst e3 e4
              have c1 := C0.c1
              have d1 := Ct.c1
              have HE0 := Lib.hid (show wline ws[a]? = ws[a].line from by rw [List.getElem?_eq_getElem ha]; rfl)
              have HEt := Lib.hid (show wline ws[a + t]? = ws[a + t].line from by rw [List.getElem?_eq_getElem hat]; rfl)
              have t1 : (t : Int) < (r : Int) := by omega
              have t2 : (0 : Int) < (r : Int) := by omega
              have t3 : 0 < r := by omega
              clear C0 Ct
              generalize ws[a].line = l0 at *
              generalize ws[a + t].line = lt at *
              by_cases he : lt = l0
              · have HLI2 := Lib.hid (show ∀ i, i < t + 1 → wline ws[a + i]? = wline ws[a]? from fun i hi => by
                  by_cases e : i = t
                  · subst e; rw [HEt.out, HE0.out, he]
                  · exact HLI.out i (by omega))
                subst he
                go_wp2_with fail
                go_quiet (fail)
                go_wp2_with fail
                go_roundw
                case rel => exact ⟨t + 1, by omega, by go_num, HLI2, below_drewN hbk _⟩
                case measure => simp [intOf]; omega
              · have he2 : (lt == l0) = false := beq_eq_false_iff_ne.2 he
                have HST := Lib.hid (lineOf_stop (j := t) (by omega) HLI.out (fun _ => by rw [HEt.out, HE0.out]; exact he))
                have HTL := Lib.hid (show t = L from by rw [HLL2.out, HST.out, List.length_take, List.length_drop]; have := HAR.out; omega)
                clear he
                go_wp2_with fail
                go_quiet (fail)
                obtain ⟨W0, hW0⟩ : ∃ W0, W0 = World.drewN wr nq := ⟨_, rfl⟩
                rw [← hW0]
                have hb00 : Below w13.heap.size w13 W0 := by rw [hW0]; exact below_drewN hbk _
                have hTL := HTL.out
                subst hTL
                clear hW0 hbk HLI HTL c1 d1 he2 HE0 HEt t2 t3
                have q1 : (((t : Nat) : Int) != ((t : Nat) : Int)) = false := bne_self_eq_false _
                obtain ⟨A2, kT, hF2⟩ := from_cut (k := t) HF.out HAR.out ht hrc
                have HF2 := Lib.hid hF2
                clear hF2
                go_upto_region 33 with fail
                go_wp2_with fail
                go_loopw [17] (fun k wk => ∃ u : Nat, u ≤ t ∧ k = .int .i64 u ∧ Below w13.heap.size w13 wk) (fun k _ => t - (intOf k).toNat)
                case atStart => exact ⟨0, Nat.zero_le _, rfl, hb00⟩
                case round =>
                  clear hb00
                  obtain ⟨u, hu, rfl, hbk⟩ := hrel
                  have u0 : (0 : Int) ≤ (u : Int) := by omega
                  by_cases hpu : u < t
                  · have hau : a + u < ws.length := by have := HAR.out; omega
                    have u1 : (u : Int) < (t : Int) := by omega
                    have u2 : (u : Int) < (r : Int) := by omega
                    obtain ⟨b3, o3, e3, hbn, Cm⟩ := nth_word HF.out (bk_below HS13.out.row hbk) hau
                    injection e3 with e3; injection e3 with e3 e4; subst e3 e4
                    obtain ⟨b6, o6, rfl, hb6, Cl⟩ := line_word (bk_below HV13.out hbk) HST.out hau hpu
                    have Q0 : PqS wr wr b6 (o6 + u * 3) b2 (o2 + u * 3) (ws[a + u]'hau) := ⟨Cl, Cm, hb6, hbn, Below.refl _ _⟩
                    generalize (ws[a + u]'hau) = x at *
                    have Q0D := Q0.below (Below.refl _ _).drew
                    have HBK := Lib.hid hbk
                    clear Cm Cl hbn hb6 kT
                    go_upto_region 36 with fail
                    go_region_held3 (fun w' => PqS wr w' b6 (o6 + u * 3) b2 (o2 + u * 3) x ∧ w'.cell? ⟨b6, o6 + u * 3, none⟩ = some (.string ⟨x.text.toArray⟩) ∧ w'.cell? ⟨b6, o6 + u * 3 + 1, none⟩ = some (.int .i64 x.line) ∧ w'.cell? ⟨b6, o6 + u * 3 + 2, none⟩ = some (.int .i64 x.col) ∧ w'.cell? ⟨b2, o2 + u * 3, none⟩ = some (.string ⟨x.text.toArray⟩) ∧ w'.cell? ⟨b2, o2 + u * 3 + 1, none⟩ = some (.int .i64 x.line) ∧ w'.cell? ⟨b2, o2 + u * 3 + 2, none⟩ = some (.int .i64 x.col))
                      (first
                        | assumption
                        | exact Q0D.full
                        | (go_split_ands; exact PqS.full (by assumption))
                        | (go_split_ands; exact PqS.full (PqS.below (by assumption) hbo)))
                      (first
                        | (go_at_call 9; go_split_ands; (with_reducible refine (same_any _ _ _ _).mono ?_); rintro e wo ⟨rfl, hbo⟩))
                    all_goals
                      go_split_ands
                      have Q6 : PqS wr wo b6 (o6 + u * 3) b2 (o2 + u * 3) x := by assumption
                      have HB6 := Lib.hid (HBK.out.trans (Q6.bel.mono HBK.out.size))
                      clear Q0 Q0D Q6 hbo
                      go_wp2_with fail
                      go_roundw
                      case rel => exact ⟨u + 1, by omega, by go_num, HB6.out⟩
                      case measure => simp [intOf]; omega
                  · have hue : u = t := by omega
                    subst hue
                    have u1 : decide ((u : Int) < (u : Int)) = false := decide_eq_false (by omega)
                    have u2 : (u : Int) ≤ (r : Int) := by omega
                    have HBK := Lib.hid hbk
                    clear hbk
                    go_wp2_with fail
                    go_roundw
                    case rel =>
                      exact ⟨j + 1, a + u, r - u, A2, cm - u, fs', ls ++ [lineOf a ws], by omega, by go_num, rfl, Lib.hid (by have := HAR.out; omega), by omega, HF2, HS13.out.below HW2.out HBK.out, HBK13.out.below HBK.out, Lib.hid (by rw [List.length_append]; have := HLL.out; simp; omega),
                        Lib.hid (fun l hl => by
                          rcases List.mem_append.1 hl with h1 | h1
                          · exact HLF.out l h1
                          · rw [List.mem_singleton.1 h1, ← HLL2.out]; omega), Lib.hid (fun i h1 h2 h3 => (HFS13.out i h2 h3).trans (HFS.out i h1 h2 h3)), by have := HBK.out.size; omega⟩
                    case measure => simp [intOf]; omega
            · have htr : t = r := by omega
              have HST := Lib.hid (lineOf_stop (j := t) (by have := HAR.out; omega) HLI.out (fun h => absurd h (by have := HAR.out; omega)))
              have HTL := Lib.hid (show t = L from by rw [HLL2.out, HST.out, List.length_take, List.length_drop]; have := HAR.out; omega)
              have t1 : decide ((t : Int) < (r : Int)) = false := decide_eq_false (by omega)
              clear htr
              go_wp2_with fail
              go_quiet (fail)
              obtain ⟨W0, hW0⟩ : ∃ W0, W0 = World.drewN wr nq := ⟨_, rfl⟩
              rw [← hW0]
              have hb00 : Below w13.heap.size w13 W0 := by rw [hW0]; exact below_drewN hbk _
              have hTL := HTL.out
              subst hTL
              clear hW0 hbk HLI HTL
              have q1 : (((t : Nat) : Int) != ((t : Nat) : Int)) = false := bne_self_eq_false _
              obtain ⟨A2, kT, hF2⟩ := from_cut (k := t) HF.out HAR.out ht hrc
              have HF2 := Lib.hid hF2
              clear hF2
              go_upto_region 33 with fail
              go_wp2_with fail
              go_loopw [17] (fun k wk => ∃ u : Nat, u ≤ t ∧ k = .int .i64 u ∧ Below w13.heap.size w13 wk) (fun k _ => t - (intOf k).toNat)
              case atStart => exact ⟨0, Nat.zero_le _, rfl, hb00⟩
              case round =>
                clear hb00
                obtain ⟨u, hu, rfl, hbk⟩ := hrel
                have u0 : (0 : Int) ≤ (u : Int) := by omega
                by_cases hpu : u < t
                · have hau : a + u < ws.length := by have := HAR.out; omega
                  have u1 : (u : Int) < (t : Int) := by omega
                  have u2 : (u : Int) < (r : Int) := by omega
                  obtain ⟨b3, o3, e3, hbn, Cm⟩ := nth_word HF.out (bk_below HS13.out.row hbk) hau
                  subst e3
                  obtain ⟨b6, o6, rfl, hb6, Cl⟩ := line_word (bk_below HV13.out hbk) HST.out hau hpu
                  have Q0 : PqS wr wr b6 (o6 + u * 3) b3 (o3 + u * 3) (ws[a + u]'hau) := ⟨Cl, Cm, hb6, hbn, Below.refl _ _⟩
                  generalize (ws[a + u]'hau) = x at *
                  have Q0D := Q0.below (Below.refl _ _).drew
                  have HBK := Lib.hid hbk
                  clear Cm Cl hbn hb6 kT
                  go_upto_region 36 with fail
                  go_region_held3 (fun w' => PqS wr w' b6 (o6 + u * 3) b3 (o3 + u * 3) x ∧ w'.cell? ⟨b6, o6 + u * 3, none⟩ = some (.string ⟨x.text.toArray⟩) ∧ w'.cell? ⟨b6, o6 + u * 3 + 1, none⟩ = some (.int .i64 x.line) ∧ w'.cell? ⟨b6, o6 + u * 3 + 2, none⟩ = some (.int .i64 x.col) ∧ w'.cell? ⟨b3, o3 + u * 3, none⟩ = some (.string ⟨x.text.toArray⟩) ∧ w'.cell? ⟨b3, o3 + u * 3 + 1, none⟩ = some (.int .i64 x.line) ∧ w'.cell? ⟨b3, o3 + u * 3 + 2, none⟩ = some (.int .i64 x.col))
                    (first
                      | assumption
                      | exact Q0D.full
                      | (go_split_ands; exact PqS.full (by assumption))
                      | (go_split_ands; exact PqS.full (PqS.below (by assumption) hbo)))
                    (first
                      | (go_at_call 9; go_split_ands; (with_reducible refine (same_any _ _ _ _).mono ?_); rintro e wo ⟨rfl, hbo⟩))
                  all_goals
                    go_split_ands
                    have Q6 : PqS wr wo b6 (o6 + u * 3) b3 (o3 + u * 3) x := by assumption
                    have HB6 := Lib.hid (HBK.out.trans (Q6.bel.mono HBK.out.size))
                    clear Q0 Q0D Q6 hbo
                    go_wp2_with fail
                    go_roundw
                    case rel => exact ⟨u + 1, by omega, by go_num, HB6.out⟩
                    case measure => simp [intOf]; omega
                · have hue : u = t := by omega
                  subst hue
                  have u1 : decide ((u : Int) < (u : Int)) = false := decide_eq_false (by omega)
                  have u2 : (u : Int) ≤ (r : Int) := by omega
                  have HBK := Lib.hid hbk
                  clear hbk
                  go_wp2_with fail
                  go_roundw
                  case rel =>
                    exact ⟨j + 1, a + u, r - u, A2, cm - u, fs', ls ++ [lineOf a ws], by omega, by go_num, rfl, Lib.hid (by have := HAR.out; omega), by omega, HF2, HS13.out.below HW2.out HBK.out, HBK13.out.below HBK.out, Lib.hid (by rw [List.length_append]; have := HLL.out; simp; omega),
                      Lib.hid (fun l hl => by
                        rcases List.mem_append.1 hl with h1 | h1
                        · exact HLF.out l h1
                        · rw [List.mem_singleton.1 h1, ← HLL2.out]; omega), Lib.hid (fun i h1 h2 h3 => (HFS13.out i h2 h3).trans (HFS.out i h1 h2 h3)), by have := HBK.out.size; omega⟩
                  case measure => simp [intOf]; omega
        · have e0 : (q == 0) = false := beq_eq_false_iff_ne.2 h0
          have e1 : (q == 1) = false := beq_eq_false_iff_ne.2 h1
          clear h0 h1
          have hgb : bk ≠ g := by omega
          have HK3 := Lib.hid (HKK.out.below hb3D)
          have hgB : g < Wb.heap.size := by omega
          have hB3 : Wb.heap.size ≤ w3.heap.size := by have := hb3D.size; omega
          rcases Nat.eq_zero_or_pos r with hr | hr
          · have ha : ws.length ≤ a := by have := HAR.out; omega
            have HPK := Lib.hid (next_any w3 g a ws S3.mem.at_)
            rw [peekV_none ha, show nextA a ws = a from if_neg (by omega)] at HPK
            have r1 : decide ((0 : Int) < (r : Int)) = false := decide_eq_false (by omega)
            have r3 : decide (0 < r) = false := decide_eq_false (by omega)
            clear hr ha
            go_upto_region 17 with (go_at_call 12; refine HPK.out.mono ?_; rintro e w4 ⟨rfl, hW4, hg4, hc4⟩
                                    have S4 := S3.move HW2.out hW4 hg4 hc4 HMV.out hgb hg0)
            have hba := (Below.refl w4.heap.size w4).alloc (Nat.le_refl _) (.cells #[.string ByteArray.empty, .int .i64 0, .int .i64 0] 44)
            have S5 := S4.below HW2.out hba
            have HK5 := Lib.hid ((HK3.out.grown hg4 hgB).below hba)
            have hB5 : Wb.heap.size ≤ (w4.alloc (.cells #[.string ByteArray.empty, .int .i64 0, .int .i64 0] 44)).heap.size := by have := hg4.size; simp; omega
            have x5 := (Bx.new w4 44 #[.string ByteArray.empty, .int .i64 0, .int .i64 0])
            have x50 := x5.at_ 0 rfl
            have x51 := x5.at_ 1 rfl
            have x52 := x5.at_ 2 rfl
            clear hba hW4 hg4 hc4 S4 x5
            generalize w4.alloc (.cells #[.string ByteArray.empty, .int .i64 0, .int .i64 0] 44) = W5 at *
            have hneq : ∀ W, (binOp .neq 44 (.agg #[.string ByteArray.empty, .int .i64 0, .int .i64 0]) (.agg #[.string ByteArray.empty, .int .i64 0, .int .i64 0])).run Tryd.prog W = .ok (.bool false) W := fun W => by kernel_rfl
            go_quiet (fail)
            go_wp2_with fail
            go_roundw
            case rel => exact ⟨j + 1, a, r, Am, cm, fs, ls, by omega, by go_num, rfl, HAR, hrc, HF, S5.below HW2.out (below_drewN (Below.refl _ _) _), HK5.out.below (below_drewN (Below.refl _ _) _), Lib.hid (by have := HLL.out; omega), HLF, HFS, by simp; omega⟩
            case measure => simp [intOf]; omega
          · have ha : a < ws.length := by have := HAR.out; omega
            have HPK := Lib.hid (next_any w3 g a ws S3.mem.at_)
            rw [peekV_some ha, show nextA a ws = a + 1 from if_pos ha] at HPK
            have r1 : decide ((0 : Int) < (r : Int)) = true := decide_eq_true (by omega)
            have r2 : (0 : Int) < (r : Int) := by omega
            have r3 : decide (0 < r) = true := decide_eq_true (by omega)
            obtain ⟨A2, kT, hF2⟩ := from_one HF.out HAR.out hr hrc
            have HF2 := Lib.hid hF2
            clear hF2
            have HXA := Lib.hid (show ∀ W, W.ownsRow w.heap.size 48 3 (.slice Am0 ws.length cm0) ws.length (wrow ws) → ∃ b o, Am = some ⟨b, o, none⟩ ∧ b < W.heap.size ∧ WdCells W b o ws[a] from fun W hW => first_word HF.out hW ha)
            generalize ws[a] = x0 at *
            go_upto_region 17 with (go_at_call 12; refine HPK.out.mono ?_; rintro e w4 ⟨rfl, hW4, hg4, hc4⟩
                                    have S4 := S3.move HW2.out hW4 hg4 hc4 HMV.out hgb hg0)
            obtain ⟨b2, o2, rfl, hb2, C4⟩ := HXA.out _ S4.row
            obtain ⟨c30, c31, c32⟩ := C4
            generalize x0.line = xl at *
            generalize x0.col = xc at *
            obtain ⟨xt, hxt⟩ : ∃ xt : ByteArray, xt = ⟨x0.text.toArray⟩ := ⟨_, rfl⟩
            rw [← hxt] at c30 ⊢
            clear hxt HXA HPK
            have hba := (Below.refl w4.heap.size w4).alloc (Nat.le_refl _) (.cells #[.string xt, .int .i64 xl, .int .i64 xc] 44)
            have S5 := S4.below HW2.out hba
            have HK5 := Lib.hid ((HK3.out.grown hg4 hgB).below hba)
            have hB5 : Wb.heap.size ≤ (w4.alloc (.cells #[.string xt, .int .i64 xl, .int .i64 xc] 44)).heap.size := by have := hg4.size; simp; omega
            have P5 : PkS (w4.alloc (.cells #[.string xt, .int .i64 xl, .int .i64 xc] 44)) _ w4.heap.size b2 o2 xt xl xc := ⟨Bx.new w4 44 _, Nat.lt_of_lt_of_le hb2 hba.size, (hba.cell (p := ⟨b2, o2, none⟩) hb2).trans c30, (hba.cell (p := ⟨b2, o2 + 1, none⟩) hb2).trans c31, (hba.cell (p := ⟨b2, o2 + 2, none⟩) hb2).trans c32, Below.refl _ _⟩
            have P5D := P5.below (Below.refl _ _).drew
            clear hba hW4 hg4 hc4 S4 c30 c31 c32 S3 y3
            generalize w4.alloc (.cells #[.string xt, .int .i64 xl, .int .i64 xc] 44) = W5 at *
            refine wp_region_held_drew (S := (fun w' => PkS W5 w' w4.heap.size b2 o2 xt xl xc ∧ w'.cell? ⟨w4.heap.size, 0, none⟩ = some (.string xt) ∧ w'.cell? ⟨w4.heap.size, 1, none⟩ = some (.int .i64 xl) ∧ w'.cell? ⟨w4.heap.size, 2, none⟩ = some (.int .i64 xc) ∧ w'.cell? ⟨b2, o2, none⟩ = some (.string xt) ∧ w'.cell? ⟨b2, o2 + 1, none⟩ = some (.int .i64 xl) ∧ w'.cell? ⟨b2, o2 + 2, none⟩ = some (.int .i64 xc))) (by kernel_rfl) ?_ (fun hHeld => ?_)
            · exact P5D.full
            refine wpAnyH_take (i := 0) (oi := _) (v := ?_) rfl (by kernel_rfl) (by kernel_rfl) (by kernel_rfl) (fun _ _ _ h => h) (Or.inl ⟨by rfl, ?y0⟩) (by assumption) ?_
            case y0 => intro w hSw; (try dsimp only at hSw); (go_simp <;> with_reducible rfl)
            try simp only [List.getElem_toArray, List.getElem_cons_succ, List.getElem_cons_zero, Act.put, List.setIfInBounds_toArray, List.set_cons_zero, List.set_cons_succ]
            refine wpAnyH_take (i := 1) (oi := _) (v := ?_) rfl (by kernel_rfl) (by kernel_rfl) (by kernel_rfl) (fun _ _ _ h => h) (Or.inl ⟨by rfl, ?y1⟩) (by assumption) ?_
            case y1 => intro w hSw; (try dsimp only at hSw); (go_simp <;> with_reducible rfl)
            try simp only [List.getElem_toArray, List.getElem_cons_succ, List.getElem_cons_zero, Act.put, List.setIfInBounds_toArray, List.set_cons_zero, List.set_cons_succ]
            refine wpAnyH_take (i := 2) (oi := _) (v := ?_) rfl (by kernel_rfl) (by kernel_rfl) (by kernel_rfl) (fun _ _ _ h => h) (Or.inl ⟨by rfl, ?y2⟩) (by assumption) ?_
            case y2 => intro w hSw; (try dsimp only at hSw); (go_simp <;> with_reducible rfl)
            try simp only [List.getElem_toArray, List.getElem_cons_succ, List.getElem_cons_zero, Act.put, List.setIfInBounds_toArray, List.set_cons_zero, List.set_cons_succ]
            refine wpAnyH_take (i := 3) (oi := _) (v := ?_) rfl (by kernel_rfl) (by kernel_rfl) (by kernel_rfl) (fun _ _ _ h => h) (Or.inl ⟨by rfl, ?y3⟩) (by assumption) ?_
            case y3 => intro w hSw; (try dsimp only at hSw); (go_simp <;> with_reducible rfl)
            try simp only [List.getElem_toArray, List.getElem_cons_succ, List.getElem_cons_zero, Act.put, List.setIfInBounds_toArray, List.set_cons_zero, List.set_cons_succ]
            refine wpAnyH_take (i := 4) (oi := _) (v := ?_) rfl (by kernel_rfl) (by kernel_rfl) (by kernel_rfl) (fun _ _ _ h => h) (Or.inl ⟨by rfl, ?y4⟩) (by assumption) ?_
            case y4 => intro w hSw; (try dsimp only at hSw); (go_simp <;> with_reducible rfl)
            try simp only [List.getElem_toArray, List.getElem_cons_succ, List.getElem_cons_zero, Act.put, List.setIfInBounds_toArray, List.set_cons_zero, List.set_cons_succ]
            refine wpAnyH_take (i := 5) (oi := _) (v := ?_) rfl (by kernel_rfl) (by kernel_rfl) (by kernel_rfl) (fun _ _ _ h => h) (Or.inl ⟨by rfl, ?y5⟩) (by assumption) ?_
            case y5 => intro w hSw; (try dsimp only at hSw); (go_simp <;> with_reducible rfl)
            try simp only [List.getElem_toArray, List.getElem_cons_succ, List.getElem_cons_zero, Act.put, List.setIfInBounds_toArray, List.set_cons_zero, List.set_cons_succ]
            refine wpAnyH_take (i := 6) (oi := _) (v := ?_) rfl (by kernel_rfl) (by kernel_rfl) (by kernel_rfl) (fun _ _ _ h => h) (Or.inl ⟨by rfl, ?y6⟩) (by assumption) ?_
            case y6 => intro w hSw; (try dsimp only at hSw); (go_simp <;> with_reducible rfl)
            try simp only [List.getElem_toArray, List.getElem_cons_succ, List.getElem_cons_zero, Act.put, List.setIfInBounds_toArray, List.set_cons_zero, List.set_cons_succ]
            refine wpAnyH_take (i := 7) (oi := _) (v := ?_) rfl (by kernel_rfl) (by kernel_rfl) (by kernel_rfl) (fun _ _ _ h => h) (Or.inl ⟨by rfl, ?y7⟩) (by assumption) ?_
            case y7 => intro w hSw; (try dsimp only at hSw); (go_simp <;> with_reducible rfl)
            try simp only [List.getElem_toArray, List.getElem_cons_succ, List.getElem_cons_zero, Act.put, List.setIfInBounds_toArray, List.set_cons_zero, List.set_cons_succ]
            refine wpAnyH_take (i := 8) (oi := _) (v := ?_) rfl (by kernel_rfl) (by kernel_rfl) (by kernel_rfl) (fun _ _ _ h => h) (Or.inl ⟨by rfl, ?y8⟩) (by assumption) ?_
            case y8 => intro w hSw; (try dsimp only at hSw); (go_simp <;> with_reducible rfl)
            try simp only [List.getElem_toArray, List.getElem_cons_succ, List.getElem_cons_zero, Act.put, List.setIfInBounds_toArray, List.set_cons_zero, List.set_cons_succ]
            refine wpAnyH_take (i := 9) (oi := _) (v := ?_) rfl (by kernel_rfl) (by kernel_rfl) (by kernel_rfl) (fun _ _ _ h => h) (Or.inl ⟨by rfl, ?y9⟩) (by assumption) ?_
            case y9 => intro w hSw; (try dsimp only at hSw); (go_simp <;> with_reducible rfl)
            try simp only [List.getElem_toArray, List.getElem_cons_succ, List.getElem_cons_zero, Act.put, List.setIfInBounds_toArray, List.set_cons_zero, List.set_cons_succ]
            refine wpAnyH_take (i := 10) (oi := _) (v := ?_) rfl (by kernel_rfl) (by kernel_rfl) (by kernel_rfl) (fun _ _ _ h => h) (Or.inl ⟨by rfl, ?y10⟩) (by assumption) ?_
            case y10 => intro w hSw; (try dsimp only at hSw); (go_simp <;> with_reducible rfl)
            try simp only [List.getElem_toArray, List.getElem_cons_succ, List.getElem_cons_zero, Act.put, List.setIfInBounds_toArray, List.set_cons_zero, List.set_cons_succ]
            refine wpAnyH_take (i := 11) (oi := _) (v := ?_) rfl (by kernel_rfl) (by kernel_rfl) (by kernel_rfl) (fun _ _ _ h => h) (Or.inl ⟨by rfl, ?y11⟩) (by assumption) ?_
            case y11 => intro w hSw; (try dsimp only at hSw); (go_simp <;> with_reducible rfl)
            try simp only [List.getElem_toArray, List.getElem_cons_succ, List.getElem_cons_zero, Act.put, List.setIfInBounds_toArray, List.set_cons_zero, List.set_cons_succ]
            refine wpAnyH_ready (rs := [12]) (by kernel_rfl) (by simp) (AllReadyH.cons (o := _) rfl (fun K hK => ?_) AllReadyH.nil)
            go_simp
            go_split_ands
            go_at_call 9
            refine (same_any xt xl xc _).mono ?_
            rintro e wo ⟨rfl, hbo⟩
            refine hK.out _ _ ?_ (fun hHeld => ?_)
            · go_split_ands; exact PkS.full (PkS.below (by assumption) hbo)
            clear hK K
            try simp only [List.getElem_toArray, List.getElem_cons_succ, List.getElem_cons_zero, Act.put, List.setIfInBounds_toArray, List.set_cons_zero, List.set_cons_succ]
            refine wpAnyH_take (i := 13) (oi := _) (v := ?_) rfl (by kernel_rfl) (by kernel_rfl) (by kernel_rfl) (fun _ _ _ h => h) (Or.inl ⟨by rfl, ?y13⟩) (by assumption) ?_
            case y13 => intro w hSw; (try dsimp only at hSw); (go_simp <;> with_reducible rfl)
            try simp only [List.getElem_toArray, List.getElem_cons_succ, List.getElem_cons_zero, Act.put, List.setIfInBounds_toArray, List.set_cons_zero, List.set_cons_succ]
            refine wpAnyH_take (i := 14) (oi := _) (v := ?_) rfl (by kernel_rfl) (by kernel_rfl) (by kernel_rfl) (fun _ _ _ h => h) (Or.inl ⟨by rfl, ?y14⟩) (by assumption) ?_
            case y14 => intro w hSw; (try dsimp only at hSw); (go_simp <;> with_reducible rfl)
            try simp only [List.getElem_toArray, List.getElem_cons_succ, List.getElem_cons_zero, Act.put, List.setIfInBounds_toArray, List.set_cons_zero, List.set_cons_succ]
            refine wpAnyH_take (i := 15) (oi := _) (v := ?_) rfl (by kernel_rfl) (by kernel_rfl) (by kernel_rfl) (fun _ _ _ h => h) (Or.inl ⟨by rfl, ?y15⟩) (by assumption) ?_
            case y15 => intro w hSw; (try dsimp only at hSw); (go_simp <;> with_reducible rfl)
            try simp only [List.getElem_toArray, List.getElem_cons_succ, List.getElem_cons_zero, Act.put, List.setIfInBounds_toArray, List.set_cons_zero, List.set_cons_succ]
            refine wpAnyH_take (i := 16) (oi := _) (v := ?_) rfl (by kernel_rfl) (by kernel_rfl) (by kernel_rfl) (fun _ _ _ h => h) (Or.inl ⟨by rfl, ?y16⟩) (by assumption) ?_
            case y16 => intro w hSw; (try dsimp only at hSw); (go_simp <;> with_reducible rfl)
            try simp only [List.getElem_toArray, List.getElem_cons_succ, List.getElem_cons_zero, Act.put, List.setIfInBounds_toArray, List.set_cons_zero, List.set_cons_succ]
            refine wpAnyH_take (i := 17) (oi := _) (v := ?_) rfl (by kernel_rfl) (by kernel_rfl) (by kernel_rfl) (fun _ _ _ h => h) (Or.inl ⟨by rfl, ?y17⟩) (by assumption) ?_
            case y17 => intro w hSw; (try dsimp only at hSw); (go_simp <;> with_reducible rfl)
            try simp only [List.getElem_toArray, List.getElem_cons_succ, List.getElem_cons_zero, Act.put, List.setIfInBounds_toArray, List.set_cons_zero, List.set_cons_succ]
            refine wpAnyH_take (i := 18) (oi := _) (v := ?_) rfl (by kernel_rfl) (by kernel_rfl) (by kernel_rfl) (fun _ _ _ h => h) (Or.inl ⟨by rfl, ?y18⟩) (by assumption) ?_
            case y18 => intro w hSw; (try dsimp only at hSw); (go_simp <;> with_reducible rfl)
            try simp only [List.getElem_toArray, List.getElem_cons_succ, List.getElem_cons_zero, Act.put, List.setIfInBounds_toArray, List.set_cons_zero, List.set_cons_succ]
            refine wpAnyH_take (i := 19) (oi := _) (v := ?_) rfl (by kernel_rfl) (by kernel_rfl) (by kernel_rfl) (fun _ _ _ h => h) (Or.inl ⟨by rfl, ?y19⟩) (by assumption) ?_
            case y19 => intro w hSw; (try dsimp only at hSw); (go_simp <;> with_reducible rfl)
            try simp only [List.getElem_toArray, List.getElem_cons_succ, List.getElem_cons_zero, Act.put, List.setIfInBounds_toArray, List.set_cons_zero, List.set_cons_succ]
            refine wpAnyH_take (i := 20) (oi := _) (v := undef) rfl (by kernel_rfl) (by kernel_rfl) (by kernel_rfl) (fun _ _ _ h => h) (Or.inr ⟨by rfl, rfl⟩) (by assumption) ?_
            try simp only [List.getElem_toArray, List.getElem_cons_succ, List.getElem_cons_zero, Act.put, List.setIfInBounds_toArray, List.set_cons_zero, List.set_cons_succ]
            refine wpAnyH_take (i := 21) (oi := _) (v := undef) rfl (by kernel_rfl) (by kernel_rfl) (by kernel_rfl) (fun _ _ _ h => h) (Or.inr ⟨by rfl, rfl⟩) (by assumption) ?_
            try simp only [List.getElem_toArray, List.getElem_cons_succ, List.getElem_cons_zero, Act.put, List.setIfInBounds_toArray, List.set_cons_zero, List.set_cons_succ]
            refine wpAnyH_take (i := 22) (oi := _) (v := undef) rfl (by kernel_rfl) (by kernel_rfl) (by kernel_rfl) (fun _ _ _ h => h) (Or.inr ⟨by rfl, rfl⟩) (by assumption) ?_
            try simp only [List.getElem_toArray, List.getElem_cons_succ, List.getElem_cons_zero, Act.put, List.setIfInBounds_toArray, List.set_cons_zero, List.set_cons_succ]
            refine wpAnyH_take (i := 23) (oi := _) (v := ?_) rfl (by kernel_rfl) (by kernel_rfl) (by kernel_rfl) (fun _ _ _ h => h) (Or.inl ⟨by rfl, ?y23⟩) (by assumption) ?_
            case y23 => intro w hSw; (try dsimp only at hSw); (go_simp <;> with_reducible rfl)
            try simp only [List.getElem_toArray, List.getElem_cons_succ, List.getElem_cons_zero, Act.put, List.setIfInBounds_toArray, List.set_cons_zero, List.set_cons_succ]
            refine wpAnyH_take (i := 24) (oi := _) (v := ?_) rfl (by kernel_rfl) (by kernel_rfl) (by kernel_rfl) (fun _ _ _ h => h) (Or.inl ⟨by rfl, ?y24⟩) (by assumption) ?_
            case y24 => intro w hSw; (try dsimp only at hSw); (go_simp <;> with_reducible rfl)
            try simp only [List.getElem_toArray, List.getElem_cons_succ, List.getElem_cons_zero, Act.put, List.setIfInBounds_toArray, List.set_cons_zero, List.set_cons_succ]
            refine wpAnyH_done (by kernel_rfl) ?_ _
            go_split_ands
            have P6 : PkS W5 wo w4.heap.size b2 o2 xt xl xc := by assumption
            have HB6 := Lib.hid P6.bel
            have HS6 := Lib.hid (S5.below HW2.out P6.bel)
            have g20 : (0 : Int) ≤ (r : Int) := by omega
            clear P5 P5D P6 hbo
            go_wp2_with fail
            go_roundw
            case rel => exact ⟨j + 1, a + 1, r - 1, A2, cm - 1, fs, ls, by omega, by go_num, rfl, Lib.hid (by have := HAR.out; omega), by omega, HF2, HS6.out, HK5.out.below HB6.out, Lib.hid (by have := HLL.out; omega), HLF, HFS, by have := HB6.out.size; omega⟩
            case measure => simp [intOf]; omega
    · have hjn : j = n := by omega
      subst hjn
      have gz : decide ((j : Int) < (j : Int)) = false := decide_eq_false (by omega)
      have hra : ws.length - a = r := by have := HAR.out; omega
      have hj200 : j ≤ 200 := by omega
      have HJ := Lib.hid hj200
      have HRA := Lib.hid hra
      have HEND := Lib.hid (fun W (hW : Below wr.heap.size wr W) => len_any W g a ws (S.mem.at_.below hW))
      rw [HRA.out] at HEND
      have HAP := Lib.hid (fun W (hW : Below wr.heap.size wr W) => apartWords_any bk Wb.heap.size fs ls W (S.k.below hW) (HK.below hW) (by have := HLL.out; have := HJ.out; omega) HLF.out (Nat.le_trans hBw hW.size) HFS.out)
      have HSB := Lib.hid S.bel
      have q1 : (((r : Nat) : Int) == ((r : Nat) : Int)) = true := beq_self_eq_true _
      clear hra S HK hj200
      go_wp2_with (first
        | (go_at_call 4; refine (HALIVE.out _ HSB.out).mono ?_; rintro e w5 ⟨rfl, hb5⟩)
        | (go_at_call 7; refine (HEND.out _ hb5).mono ?_; rintro e w6 ⟨rfl, hb6⟩
           have hb56 := hb5.trans (hb6.mono hb5.size))
        | (go_at_call 13; refine (HAP.out _ hb56).mono ?_; rintro e w7 ⟨rfl, hb7⟩))
      go_ret
      exact ⟨rfl, (HSB.out.trans (hb56.mono HSB.out.size)).trans (hb7.mono (by omega))⟩
end Go.Proofs.YtcglbbabfkbcbabDoor
