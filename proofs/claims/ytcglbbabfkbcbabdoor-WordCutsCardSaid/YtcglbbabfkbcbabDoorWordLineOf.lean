/-
  word.Words: Line; and all of a nil.
-/
import Derived.Test.YtcglbbabfkbcbabDoorWordTake
namespace Go.Proofs.YtcglbbabfkbcbabDoor
open Go.RowKit

theorem next_nil (w : World) :
    Calls Tryd.prog 12 #[.pointer none] w fun e w' => e = .returned (.tuple #[zeroWord, .bool false]) ∧ Below w.heap.size w w' := by
  go_enter Tryd.func12, Tryd.ntmps12
  go_wp2_with (first
    | (go_at_call 8; refine (peek_nil _).mono ?_; rw [show zeroWord = .agg #[.string ByteArray.empty, .int .i64 0, .int .i64 0] from rfl]; rintro e w1 ⟨rfl, hb⟩; obtain ⟨q0, q1, q2, q3, q4, q5⟩ := res_cells hb
       have hq1 : w.heap.size < w1.heap.size := by have := hb.size; simp at this; omega))
  (try simp only [Exit.inBlock, Exit.then])
  have hbel := ((((((Below.refl w.heap.size w).alloc (Nat.le_refl _) _).trans (hb.mono (by simp))).setCell (p := ⟨w.heap.size, 0, none⟩) (Nat.le_refl _) (.string ByteArray.empty)).setCell (p := ⟨w.heap.size, 1, none⟩) (Nat.le_refl _) (.int .i64 0)).setCell (p := ⟨w.heap.size, 2, none⟩) (Nat.le_refl _) (.int .i64 0)).alloc (by simp; omega) (.cells #[.string ByteArray.empty, .int .i64 0, .int .i64 0] 44)
  refine bodyPost_ret (v := .tuple #[.agg #[.string ByteArray.empty, .int .i64 0, .int .i64 0], .bool false]) ?_ rfl ⟨rfl, hbel⟩
  rw [results_cell_tmp rfl]
  go_simp
set_option maxRecDepth 100000 in
theorem line_nil (w : World) :
    Calls Tryd.prog 10 #[.pointer none] w fun e w' => e = .returned (.slice none 0 0) ∧ Below w.heap.size w w' := by
  go_enter Tryd.func10, Tryd.ntmps10
  go_wp2_with (first
    | (go_at_call 8; refine (peek_nil _).mono ?_; rw [show zeroWord = .agg #[.string ByteArray.empty, .int .i64 0, .int .i64 0] from rfl]; rintro e w1 ⟨rfl, hb⟩))
  go_loopw [3, 4, 5] (fun vo _ vi wr => vo = .slice none 0 0 ∧ vi = .bool false ∧ Below w.heap.size w wr) (fun _ _ _ _ => 0)
  case atStart => exact ⟨rfl, rfl, hb.alloc hb.size _⟩
  case round =>
    obtain ⟨rfl, rfl, hbr⟩ := hrel
    go_wp2_with fail
    go_quiet (fail)
    go_wp2_with fail
    go_ret
    exact ⟨rfl, below_drewN hbr _⟩
def slLen : Value → Nat
  | .slice _ n _ => n
  | _ => 0
def lineOf (a : Nat) (ws : List Wd) : List Wd := match ws[a]? with
  | some x => (ws.drop a).takeWhile (fun y => decide (y.line = x.line))
  | none => []
/-- A word that lies in a block of its own. -/
structure Box3 (w : World) (b : Nat) (t : ByteArray) (l c : Int) : Prop where
  lt : b < w.heap.size
  c0 : w.cell? ⟨b, 0, none⟩ = some (.string t)
  c1 : w.cell? ⟨b, 1, none⟩ = some (.int .i64 l)
  c2 : w.cell? ⟨b, 2, none⟩ = some (.int .i64 c)
  f0 : w.frozen? ⟨b, 0, none⟩ = false
  f1 : w.frozen? ⟨b, 1, none⟩ = false
  f2 : w.frozen? ⟨b, 2, none⟩ = false
theorem Box3.new (w : World) (T : TypeId) (t : ByteArray) (l c : Int) : Box3 (w.alloc (.cells #[.string t, .int .i64 l, .int .i64 c] T)) w.heap.size t l c :=
  ⟨by simp, World.cell?_alloc_at _ _ _ _ rfl, World.cell?_alloc_at _ _ _ _ rfl, World.cell?_alloc_at _ _ _ _ rfl, World.frozen?_alloc_at _ _ _ _ rfl, World.frozen?_alloc_at _ _ _ _ rfl, World.frozen?_alloc_at _ _ _ _ rfl⟩
theorem Box3.below {w w' : World} {b : Nat} {t : ByteArray} {l c : Int} (h : Box3 w b t l c) (hb : Below w.heap.size w w') : Box3 w' b t l c :=
  ⟨Nat.lt_of_lt_of_le h.lt hb.size, (hb.cell (p := ⟨b, 0, none⟩) h.lt).trans h.c0, (hb.cell (p := ⟨b, 1, none⟩) h.lt).trans h.c1, (hb.cell (p := ⟨b, 2, none⟩) h.lt).trans h.c2,
   (hb.frozen (p := ⟨b, 0, none⟩) h.lt).trans h.f0, (hb.frozen (p := ⟨b, 1, none⟩) h.lt).trans h.f1, (hb.frozen (p := ⟨b, 2, none⟩) h.lt).trans h.f2⟩
theorem Box3.grown {w w' : World} {row : Option Nat} {b : Nat} {t : ByteArray} {l c : Int} (h : Box3 w b t l c) (hg : w.grownBy w' row) (hne : some b ≠ row) : Box3 w' b t l c := by
  have hb := hg.block b h.lt hne
  exact ⟨Nat.lt_of_lt_of_le h.lt hg.size, (World.cell?_of_block (a := ⟨b, 0, none⟩) hb).trans h.c0, (World.cell?_of_block (a := ⟨b, 1, none⟩) hb).trans h.c1, (World.cell?_of_block (a := ⟨b, 2, none⟩) hb).trans h.c2,
    (World.frozen?_of_block (a := ⟨b, 0, none⟩) hb).trans h.f0, (World.frozen?_of_block (a := ⟨b, 1, none⟩) hb).trans h.f1, (World.frozen?_of_block (a := ⟨b, 2, none⟩) hb).trans h.f2⟩
theorem Box3.set {w : World} {b : Nat} {t t' : ByteArray} {l c l' c' : Int} (h : Box3 w b t l c) : Box3 (((w.setCell ⟨b, 0, none⟩ (.string t')).setCell ⟨b, 1, none⟩ (.int .i64 l')).setCell ⟨b, 2, none⟩ (.int .i64 c')) b t' l' c' := by
  have n01 : (⟨b, 1, none⟩ : Addr) ≠ ⟨b, 0, none⟩ := by simp
  have n02 : (⟨b, 2, none⟩ : Addr) ≠ ⟨b, 0, none⟩ := by simp
  have n12 : (⟨b, 2, none⟩ : Addr) ≠ ⟨b, 1, none⟩ := by simp
  refine ⟨by simpa using h.lt, ?_, ?_, ?_, ?_, ?_, ?_⟩
  · rw [World.cell?_setCell_other _ _ _ _ n02, World.cell?_setCell_other _ _ _ _ n01, World.cell?_setCell_same _ _ _ h.c0]
  · rw [World.cell?_setCell_other _ _ _ _ n12, World.cell?_setCell_same _ _ _ (u := .int .i64 l)]
    rw [World.cell?_setCell_other _ _ _ _ n01.symm]; exact h.c1
  · rw [World.cell?_setCell_same _ _ _ (u := .int .i64 c)]
    rw [World.cell?_setCell_other _ _ _ _ n12.symm, World.cell?_setCell_other _ _ _ _ n02.symm]; exact h.c2
  · rw [World.frozen?_setCell, World.frozen?_setCell, World.frozen?_setCell]; exact h.f0
  · rw [World.frozen?_setCell, World.frozen?_setCell, World.frozen?_setCell]; exact h.f1
  · rw [World.frozen?_setCell, World.frozen?_setCell, World.frozen?_setCell]; exact h.f2
/-- The words, while a row of one's own grows. -/
structure LineMem (w : World) (g a : Nat) (ws : List Wd) (wr : World) : Prop where
  at_ : WordsAt wr g a ws
  gr : w.grownBy wr (some g)
  k1 : wr.cell? ⟨g, 1, none⟩ = w.cell? ⟨g, 1, none⟩
  k2 : wr.frozen? ⟨g, 1, none⟩ = w.frozen? ⟨g, 1, none⟩
theorem LineMem.grown {w w2 w3 : World} {row : Option Nat} {g a a0 : Nat} {ws : List Wd} (h : LineMem w g a ws w2) (h0 : WordsAt w g a0 ws) (hg : w2.grownBy w3 row) (hr : ∀ k, row = some k → w.heap.size ≤ k) : LineMem w g a ws w3 := by
  have hne : some g ≠ row := fun e => by have := hr g e.symm; have := h0.lt; omega
  have hb := hg.block g h.at_.lt hne
  have hgr : w.grownBy w3 (some g) := ⟨hg.os.trans h.gr.os, hg.tape.trans h.gr.tape, hg.output.trans h.gr.output, Nat.le_trans h.gr.size hg.size, fun k hk hkn =>
    (hg.block k (Nat.lt_of_lt_of_le hk h.gr.size) (fun e => by have := hr k e.symm; omega)).trans (h.gr.block k hk hkn)⟩
  have e1 : w3.cell? ⟨g, 1, none⟩ = w.cell? ⟨g, 1, none⟩ := (World.cell?_of_block (a := ⟨g, 1, none⟩) hb).trans h.k1
  have e2 : w3.frozen? ⟨g, 1, none⟩ = w.frozen? ⟨g, 1, none⟩ := (World.frozen?_of_block (a := ⟨g, 1, none⟩) hb).trans h.k2
  exact ⟨h0.grow hgr ((World.cell?_of_block (a := ⟨g, 0, none⟩) hb).trans h.at_.c0) ((World.frozen?_of_block (a := ⟨g, 0, none⟩) hb).trans h.at_.f0) e1 e2 h.at_.le, hgr, e1, e2⟩
theorem LineMem.below {w w2 w3 : World} {g a a0 : Nat} {ws : List Wd} (h : LineMem w g a ws w2) (h0 : WordsAt w g a0 ws) (hb : Below w2.heap.size w2 w3) : LineMem w g a ws w3 := h.grown h0 (grown_of_below hb none) (fun _ e => nomatch e)
theorem LineMem.set {w w2 : World} {g a a0 : Nat} {ws : List Wd} (h : LineMem w g a ws w2) (h0 : WordsAt w g a0 ws) {p : Addr} (hp : w.heap.size ≤ p.block) (u : Value) : LineMem w g a ws (w2.setCell p u) :=
  h.grown h0 (row := some p.block) ⟨rfl, rfl, rfl, by simp, fun k _ hne => Below.heap_setCell _ _ _ _ (fun e => hne (by rw [e]))⟩ (fun k e => by injection e with e; omega)
def wtext (o : Option Wd) : ByteArray := match o with | some x => ⟨x.text.toArray⟩ | none => ByteArray.empty
def wline (o : Option Wd) : Int := match o with | some x => x.line | none => 0
def wcol (o : Option Wd) : Int := match o with | some x => x.col | none => 0
theorem peekV_is (a : Nat) (ws : List Wd) : peekV a ws = .tuple #[.agg #[.string (wtext ws[a]?), .int .i64 (wline ws[a]?), .int .i64 (wcol ws[a]?)], .bool (decide (a < ws.length))] := by
  unfold peekV wtext wline wcol
  by_cases h : a < ws.length
  · rw [List.getElem?_eq_getElem h]; simp [wagg, h]
  · rw [List.getElem?_eq_none (by omega)]; simp [zeroWord, h]
theorem row_snoc {ws : List Wd} {a j : Nat} (h : a + j < ws.length) : wrow ((ws.drop a).take (j + 1)) = wrow ((ws.drop a).take j) ++ [.string (wtext ws[a + j]?), .int .i64 (wline ws[a + j]?), .int .i64 (wcol ws[a + j]?)] := by
  rw [List.take_succ_eq_append_getElem (by rw [List.length_drop]; omega), wrow_append, List.getElem?_eq_getElem h]
  simp [wrow, wcells, wtext, wline, wcol]
theorem cell_three_new (w : World) (T : TypeId) (a b c : Value) : ∀ j u, [a, b, c][j]? = some u → (w.alloc (.cells #[a, b, c] T)).cell? ((⟨w.heap.size, 0, none⟩ : Addr).add j) = some u := by
  intro j u hj
  match j, hj with
  | 0, hj => simp at hj; subst hj; simp [Addr.add]
  | 1, hj => simp at hj; subst hj; simp [Addr.add]
  | 2, hj => simp at hj; subst hj; simp [Addr.add]
theorem lineOf_stop {ws : List Wd} {a j : Nat} (hj : a + j ≤ ws.length) (hall : ∀ i, i < j → wline ws[a + i]? = wline ws[a]?) (hs : a + j < ws.length → wline ws[a + j]? ≠ wline ws[a]?) : lineOf a ws = (ws.drop a).take j := by
  unfold lineOf
  by_cases ha : a < ws.length
  · rw [List.getElem?_eq_getElem ha]
    simp only
    have hp : ((ws.drop a).take j).all (fun y => decide (y.line = ws[a].line)) = true := by
      rw [List.all_eq_true]
      intro y hy
      obtain ⟨i, hi, e⟩ := List.getElem_of_mem hy
      rw [List.length_take, List.length_drop] at hi
      have h1 := hall i (by omega)
      rw [List.getElem?_eq_getElem (by omega : a + i < ws.length), List.getElem?_eq_getElem ha] at h1
      rw [List.getElem_take, List.getElem_drop] at e
      subst e
      exact decide_eq_true h1
    by_cases h : a + j < ws.length
    · have h1 := hs h
      rw [List.getElem?_eq_getElem h, List.getElem?_eq_getElem ha] at h1
      exact takeWhile_at _ _ j (by rw [List.length_drop]; omega) hp (by rw [List.getElem_drop]; exact decide_eq_false h1)
    · have e : (ws.drop a).take j = ws.drop a := List.take_of_length_le (by rw [List.length_drop]; omega)
      rw [e] at hp ⊢
      exact takeWhile_all _ _ hp
  · rw [List.getElem?_eq_none (by omega), List.drop_of_length_le (by omega)]
    simp
theorem line_first {ws : List Wd} {a j : Nat} (h : a + j ≤ ws.length) (hj : j ≠ 0) : (wrow ((ws.drop a).take j))[1]? = some (.int .i64 (wline ws[a]?)) := by
  have hl : 0 < ((ws.drop a).take j).length := by rw [List.length_take, List.length_drop]; omega
  have := (wrow_get _ 0 hl).2.1
  rw [Nat.zero_mul, Nat.zero_add] at this
  rw [this, List.getElem?_eq_getElem (by omega : a < ws.length)]
  simp [wline]
structure LineGo (w : World) (g a : Nat) (ws : List Wd) (j xb : Nat) (vo : Value) (wr : World) : Prop where
  hj : a + j ≤ ws.length
  xge : w.heap.size ≤ xb
  box : Box3 wr xb (wtext ws[a + j]?) (wline ws[a + j]?) (wcol ws[a + j]?)
  own : wr.ownsRow w.heap.size 44 3 vo j (wrow ((ws.drop a).take j))
  ne : vo.ownBlock ≠ some xb
  mem : LineMem w g (a + j) ws wr
  all : ∀ i, i < j → wline ws[a + i]? = wline ws[a]?
set_option maxRecDepth 100000 in
set_option maxHeartbeats 4000000 in
theorem lineOfK_any (w : World) (g a : Nat) (ws : List Wd) (h : WordsAt w g a ws) :
    Calls Tryd.prog 10 #[.pointer (some ⟨g, 0, none⟩)] w fun e w' => ∃ v, e = .returned v ∧ w'.ownsRow w.heap.size 44 3 v (lineOf a ws).length (wrow (lineOf a ws)) ∧ WordsAt w' g (a + (lineOf a ws).length) ws ∧ w.grownBy w' (some g) ∧ w'.cell? ⟨g, 1, none⟩ = w.cell? ⟨g, 1, none⟩ := by
  obtain ⟨i0, hi, hz0, hz1, hz2⟩ := info_parts info_word
  have hglt := h.lt
  have hfew := h.few
  go_enter Tryd.func10, Tryd.ntmps10
  go_wp2_with (first
    | (go_at_call 8; refine (peek_any _ _ _ _ h).mono ?_; rw [peekV_is]; rintro e w1 ⟨rfl, hb⟩))
  go_loopw [3, 4, 5] (fun vo vx vi wr => ∃ j xb, vx = .pointer (some ⟨xb, 0, none⟩) ∧ vi = .bool (decide (a + j < ws.length)) ∧ LineGo w g a ws j xb vo wr) (fun vo _ _ _ => ws.length - slLen vo)
  case atStart =>
    refine ⟨0, w1.heap.size, rfl, rfl, ⟨h.le, hb.size, Box3.new _ _ _ _ _, World.ownsRow_nil _ _ _ _, by simp [Value.ownBlock], ⟨h.below (hb.alloc hb.size _), grown_of_below (hb.alloc hb.size _) _, (hb.alloc hb.size _).cell (p := ⟨g, 1, none⟩) hglt, (hb.alloc hb.size _).frozen (p := ⟨g, 1, none⟩) hglt⟩, fun i hi => by omega⟩⟩
  case round =>
    obtain ⟨j, xb, rfl, rfl, hL⟩ := hrel
    have hj := hL.hj
    obtain ⟨A, c, rfl, hjc, hsl⟩ := own_slice hL.own
    obtain ⟨xt, hxt⟩ : ∃ xt, xt = wtext ws[a + j]? := ⟨_, rfl⟩
    obtain ⟨xl, hxl⟩ : ∃ xl, xl = wline ws[a + j]? := ⟨_, rfl⟩
    obtain ⟨xc, hxc⟩ : ∃ xc, xc = wcol ws[a + j]? := ⟨_, rfl⟩
    obtain ⟨l0, hl0⟩ : ∃ l0, l0 = wline ws[a]? := ⟨_, rfl⟩
    have box0 := hL.box
    rw [← hxt, ← hxl, ← hxc] at box0
    have HXT := Lib.hid hxt
    have HXL := Lib.hid hxl
    have HXC := Lib.hid hxc
    have HL0 := Lib.hid hl0
    clear hxt hxl hxc hl0
    have y1 := box0.c1
    by_cases hin : a + j < ws.length ∧ (j = 0 ∨ xl = l0)
    · obtain ⟨hlt, h2⟩ := hin
      have hd : decide (a + j < ws.length) = true := decide_eq_true hlt
      rw [hd]
      by_cases hj0 : j = 0
      · have hz : ((j : Int) == 0) = true := by simp [hj0]
        have HJ0 := Lib.hid hj0
        clear hj0 h2
        go_wp2_with fail
        go_quiet (fail)
        generalize hwq : wr.drewN _ = wq
        have hbq : Below wr.heap.size wr wq := by rw [← hwq]; exact below_drewN (Below.refl _ _) _
        clear hwq
        have own1 := own_below hL.own hbq
        have box1 := box0.below hbq
        have mem1 := hL.mem.below h hbq
        have p0 := box1.c0
        have p1 := box1.c1
        have p2 := box1.c2
        have hwz := mem1.gr.size
        have hnew : wrow ((ws.drop a).take (j + 1)) = wrow ((ws.drop a).take j) ++ [.string (xt), .int .i64 (xl), .int .i64 (xc)] := by rw [HXT.out, HXL.out, HXC.out]; exact row_snoc hlt
        have HNEW := Lib.hid hnew
        clear hnew
        go_wp2_with (first
          | (at_builtin; refine wpList_append_own _ rfl _ _ 49 rfl w.heap.size 44 i0 (.agg #[.string ByteArray.empty, .int .i64 0, .int .i64 0]) 3 32 Tryd.underlying49 hi hz0 hz1 hz2 rfl (by decide) _ _ _ rfl (own1.alloc _) ⟨wq.heap.size, 0, none⟩ 1 1 [.string (xt), .int .i64 (xl), .int .i64 (xc)] rfl rfl (cell_three_new _ _ _ _ _) ?c2 ?c3 ?c4 ?c5 ?_
             case c2 => intro u hu; simp at hu; rcases hu with rfl | rfl | rfl <;> rfl
             case c3 => unfold maxLen; omega
             case c4 => omega
             case c5 => simp; omega
             intro v' w3 hown3 hgrow3 _
             rw [← HNEW.out] at hown3
             obtain ⟨A3, c3, rfl, hjc3, _⟩ := own_slice hown3
             have hgr3 := hgrow3
             have mem3 := (mem1.below h ((Below.refl wq.heap.size wq).alloc (Nat.le_refl _) _)).grown h hgrow3 (fun k e => (own1.lt k e).1)
             have hwz3 := mem3.gr.size
             clear hgrow3)
          | (go_at_call 12; refine (next_any _ _ _ _ mem3.at_).mono ?_; rw [peekV_is]; rintro e w4 ⟨rfl, at4, gr4, k4⟩
             have hgne : some g ≠ (Value.slice A3 (j + 1) c3).ownBlock := fun e => by have := (hown3.lt g e.symm).1; omega
             have own4 := hown3.kept gr4 (.inr (Ne.symm hgne))
             have box4 := (((box0.below hbq).below ((Below.refl wq.heap.size wq).alloc (Nat.le_refl _) _)).grown hgr3 (Ne.symm hL.ne)).grown gr4 (fun e => by injection e with e; have := hL.xge; omega)
             have s0 := box4.c0
             have s1 := box4.c1
             have s2 := box4.c2
             have hnx : nextA (a + j) ws = a + (j + 1) := by unfold nextA; rw [if_pos hlt]; omega
             rw [hnx] at at4
             have mem4 : LineMem w g (a + (j + 1)) ws w4 := ⟨at4, grown_trans' mem3.gr gr4, k4.trans mem3.k1, at4.f1'.trans h.f1'.symm⟩
             have mem5 := mem4.below h ((Below.refl w4.heap.size w4).alloc (Nat.le_refl _) (.cells #[.string (xt), .int .i64 (xl), .int .i64 (xc)] 44))
             have hwz4 := mem4.gr.size
             clear box4 hnx at4 gr4 k4 hgr3)
          | (go_at_call 8; refine (peek_any _ _ _ _ mem5.at_).mono ?_; rw [peekV_is]; rintro e w6 ⟨rfl, hb6⟩
             have box6 := (Box3.new w4 44 (xt) (xl) (xc)).below hb6
             have own6 := own_below (own4.alloc _) hb6
             have mem6 := mem5.below h hb6
             have r0 := box6.c0
             have r1 := box6.c1
             have r2 := box6.c2
             have r3 := box6.f0
             have r4 := box6.f1
             have r5 := box6.f2))
        go_roundw
        case rel =>
          refine ⟨j + 1, w4.heap.size, rfl, rfl, ⟨hlt, hwz4, box6.set, ?_, ?_, ((mem6.set h hwz4 _).set h hwz4 _).set h hwz4 _, ?_⟩⟩
          · have hn4 : (Value.slice A3 (j + 1) c3).ownBlock ≠ some w4.heap.size := fun e => by have := (own4.lt _ e).2; omega
            exact ownsRow_setCell_other (ownsRow_setCell_other (ownsRow_setCell_other own6 hn4 _) hn4 _) hn4 _
          · exact fun e => by have := (own4.lt _ e).2; omega
          · intro i hi
            rcases Nat.lt_or_ge i j with hij | hij
            · exact hL.all i hij
            · have : i = j := by omega
              subst this
              rw [HJ0.out, Nat.add_zero]
        case measure => simp [slLen]; omega
      · have hz3 : (l0 == xl) = true := by rw [h2.resolve_left hj0]; simp
        have H3 := Lib.hid (h2.resolve_left hj0)
        clear h2
        obtain ⟨g2, rfl⟩ : ∃ g2, A = some ⟨g2, 0, none⟩ := by
          rcases hL.own.2 with ⟨e, h0⟩ | ⟨g2, _, _, e, _⟩
          · exact absurd h0 hj0
          · injection e with e; exact ⟨g2, e⟩
        have z1 : wr.cell? ⟨g2, 1, none⟩ = some (.int .i64 (l0)) := (hL.own.cellAt 1 (by omega)).trans (by rw [HL0.out]; exact line_first (by omega) hj0)
        have hjp : (0 : Int) < (j : Int) := by omega
        have hz : ((j : Int) == 0) = false := beq_eq_false_iff_ne.2 (by omega)
        go_wp2_with fail
        go_quiet (fail)
        generalize hwq : wr.drewN _ = wq
        have hbq : Below wr.heap.size wr wq := by rw [← hwq]; exact below_drewN (Below.refl _ _) _
        clear hwq
        have own1 := own_below hL.own hbq
        have box1 := box0.below hbq
        have mem1 := hL.mem.below h hbq
        have p0 := box1.c0
        have p1 := box1.c1
        have p2 := box1.c2
        have hwz := mem1.gr.size
        have hnew : wrow ((ws.drop a).take (j + 1)) = wrow ((ws.drop a).take j) ++ [.string (xt), .int .i64 (xl), .int .i64 (xc)] := by rw [HXT.out, HXL.out, HXC.out]; exact row_snoc hlt
        have HNEW := Lib.hid hnew
        clear hnew
        go_wp2_with (first
          | (at_builtin; refine wpList_append_own _ rfl _ _ 49 rfl w.heap.size 44 i0 (.agg #[.string ByteArray.empty, .int .i64 0, .int .i64 0]) 3 32 Tryd.underlying49 hi hz0 hz1 hz2 rfl (by decide) _ _ _ rfl (own1.alloc _) ⟨wq.heap.size, 0, none⟩ 1 1 [.string (xt), .int .i64 (xl), .int .i64 (xc)] rfl rfl (cell_three_new _ _ _ _ _) ?c2 ?c3 ?c4 ?c5 ?_
             case c2 => intro u hu; simp at hu; rcases hu with rfl | rfl | rfl <;> rfl
             case c3 => unfold maxLen; omega
             case c4 => omega
             case c5 => simp; omega
             intro v' w3 hown3 hgrow3 _
             rw [← HNEW.out] at hown3
             obtain ⟨A3, c3, rfl, hjc3, _⟩ := own_slice hown3
             have hgr3 := hgrow3
             have mem3 := (mem1.below h ((Below.refl wq.heap.size wq).alloc (Nat.le_refl _) _)).grown h hgrow3 (fun k e => (own1.lt k e).1)
             have hwz3 := mem3.gr.size
             clear hgrow3)
          | (go_at_call 12; refine (next_any _ _ _ _ mem3.at_).mono ?_; rw [peekV_is]; rintro e w4 ⟨rfl, at4, gr4, k4⟩
             have hgne : some g ≠ (Value.slice A3 (j + 1) c3).ownBlock := fun e => by have := (hown3.lt g e.symm).1; omega
             have own4 := hown3.kept gr4 (.inr (Ne.symm hgne))
             have box4 := (((box0.below hbq).below ((Below.refl wq.heap.size wq).alloc (Nat.le_refl _) _)).grown hgr3 (Ne.symm hL.ne)).grown gr4 (fun e => by injection e with e; have := hL.xge; omega)
             have s0 := box4.c0
             have s1 := box4.c1
             have s2 := box4.c2
             have hnx : nextA (a + j) ws = a + (j + 1) := by unfold nextA; rw [if_pos hlt]; omega
             rw [hnx] at at4
             have mem4 : LineMem w g (a + (j + 1)) ws w4 := ⟨at4, grown_trans' mem3.gr gr4, k4.trans mem3.k1, at4.f1'.trans h.f1'.symm⟩
             have mem5 := mem4.below h ((Below.refl w4.heap.size w4).alloc (Nat.le_refl _) (.cells #[.string (xt), .int .i64 (xl), .int .i64 (xc)] 44))
             have hwz4 := mem4.gr.size
             clear box4 hnx at4 gr4 k4 hgr3)
          | (go_at_call 8; refine (peek_any _ _ _ _ mem5.at_).mono ?_; rw [peekV_is]; rintro e w6 ⟨rfl, hb6⟩
             have box6 := (Box3.new w4 44 (xt) (xl) (xc)).below hb6
             have own6 := own_below (own4.alloc _) hb6
             have mem6 := mem5.below h hb6
             have r0 := box6.c0
             have r1 := box6.c1
             have r2 := box6.c2
             have r3 := box6.f0
             have r4 := box6.f1
             have r5 := box6.f2))
        go_roundw
        case rel =>
          refine ⟨j + 1, w4.heap.size, rfl, rfl, ⟨hlt, hwz4, box6.set, ?_, ?_, ((mem6.set h hwz4 _).set h hwz4 _).set h hwz4 _, ?_⟩⟩
          · have hn4 : (Value.slice A3 (j + 1) c3).ownBlock ≠ some w4.heap.size := fun e => by have := (own4.lt _ e).2; omega
            exact ownsRow_setCell_other (ownsRow_setCell_other (ownsRow_setCell_other own6 hn4 _) hn4 _) hn4 _
          · exact fun e => by have := (own4.lt _ e).2; omega
          · intro i hi
            rcases Nat.lt_or_ge i j with hij | hij
            · exact hL.all i hij
            · have : i = j := by omega
              subst this
              rw [← HXL.out, ← HL0.out]; exact H3.out
        case measure => simp [slLen]; omega
    · by_cases hlt : a + j < ws.length
      · have hj0 : j ≠ 0 := fun e => hin ⟨hlt, .inl e⟩
        have hne : ¬ xl = l0 := fun e => hin ⟨hlt, .inr e⟩
        have hd : decide (a + j < ws.length) = true := decide_eq_true hlt
        rw [hd]
        obtain ⟨g2, rfl⟩ : ∃ g2, A = some ⟨g2, 0, none⟩ := by
          rcases hL.own.2 with ⟨e, h0⟩ | ⟨g2, _, _, e, _⟩
          · exact absurd h0 hj0
          · injection e with e; exact ⟨g2, e⟩
        have z1 : wr.cell? ⟨g2, 1, none⟩ = some (.int .i64 (l0)) := (hL.own.cellAt 1 (by omega)).trans (by rw [HL0.out]; exact line_first (by omega) hj0)
        have hjp : (0 : Int) < (j : Int) := by omega
        have hz : ((j : Int) == 0) = false := beq_eq_false_iff_ne.2 (by omega)
        have hz2 : (l0 == xl) = false := by simp; exact fun e => hne e.symm
        have HSTOP := Lib.hid (lineOf_stop hL.hj hL.all (fun _ => by rw [← HXL.out, ← HL0.out]; exact hne))
        have htk : ((ws.drop a).take j).length = j := by rw [List.length_take, List.length_drop]; omega
        clear hne
        go_wp2_with fail
        go_quiet (fail)
        go_wp2_with fail
        go_ret
        refine ⟨_, rfl, ?_, ?_, ?_, ?_⟩
        · rw [HSTOP.out, htk]; exact own_below hL.own (below_drewN (Below.refl _ _) _)
        · rw [HSTOP.out, htk]; exact hL.mem.at_.below (below_drewN (Below.refl _ _) _)
        · exact grown_trans' hL.mem.gr (grown_of_below (below_drewN (Below.refl _ _) _) _)
        · exact ((below_drewN (Below.refl _ _) _).cell (p := ⟨g, 1, none⟩) hL.mem.at_.lt).trans hL.mem.k1
      · have hd : decide (a + j < ws.length) = false := decide_eq_false hlt
        have HSTOP := Lib.hid (lineOf_stop hL.hj hL.all (fun h => absurd h hlt))
        have htk : ((ws.drop a).take j).length = j := by rw [List.length_take, List.length_drop]; omega
        rw [hd]
        go_wp2_with fail
        go_quiet (fail)
        go_wp2_with fail
        go_ret
        refine ⟨_, rfl, ?_, ?_, ?_, ?_⟩
        · rw [HSTOP.out, htk]; exact own_below hL.own (below_drewN (Below.refl _ _) _)
        · rw [HSTOP.out, htk]; exact hL.mem.at_.below (below_drewN (Below.refl _ _) _)
        · exact grown_trans' hL.mem.gr (grown_of_below (below_drewN (Below.refl _ _) _) _)
        · exact ((below_drewN (Below.refl _ _) _).cell (p := ⟨g, 1, none⟩) hL.mem.at_.lt).trans hL.mem.k1
theorem lineOf_any (w : World) (g a : Nat) (ws : List Wd) (h : WordsAt w g a ws) :
    Calls Tryd.prog 10 #[.pointer (some ⟨g, 0, none⟩)] w fun e w' => ∃ v, e = .returned v ∧ w'.ownsRow w.heap.size 44 3 v (lineOf a ws).length (wrow (lineOf a ws)) ∧ WordsAt w' g (a + (lineOf a ws).length) ws ∧ w.grownBy w' (some g) :=
  (lineOfK_any w g a ws h).mono fun _ _ ⟨v, h1, h2, h3, h4, _⟩ => ⟨v, h1, h2, h3, h4⟩
end Go.Proofs.YtcglbbabfkbcbabDoor
