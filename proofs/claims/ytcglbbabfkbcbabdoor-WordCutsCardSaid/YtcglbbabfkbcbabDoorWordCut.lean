/-
  word.Cut: a text is cut into its words, line by line.
-/
import Derived.Test.YtcglbbabfkbcbabDoorWordLines
import Derived.Test.YtcglbbabfkbcbabDoorShelf
import Derived.Laws.AppendOwnNone
namespace Go.Proofs.YtcglbbabfkbcbabDoor
open Go.RowKit

/-- The words that lie in memory behind the pointer to block g, from place at on. -/
structure WordsAt (w : World) (g : Nat) (at_ : Nat) (ws : List Wd) : Prop where
  lt : g < w.heap.size
  few : ws.length ≤ 16004000
  le : at_ ≤ ws.length
  c0 : w.cell? ⟨g, 0, none⟩ = some (.int .i64 at_)
  f0 : w.frozen? ⟨g, 0, none⟩ = false
  c1 : ∃ A c, w.cell? ⟨g, 1, none⟩ = some (.slice A ws.length c) ∧ w.frozen? ⟨g, 1, none⟩ = false ∧ Sl w A (wrow ws) ∧ ws.length ≤ c ∧ (∀ b off, A = some ⟨b, off, none⟩ → b ≠ g)
theorem WordsAt.f1' {w : World} {g a : Nat} {ws : List Wd} (h : WordsAt w g a ws) : w.frozen? ⟨g, 1, none⟩ = false := by obtain ⟨_, _, _, h2, _⟩ := h.c1; exact h2
theorem WordsAt.below {w w' : World} {g a : Nat} {ws : List Wd} (h : WordsAt w g a ws) (hb : Below w.heap.size w w') : WordsAt w' g a ws := by
  obtain ⟨A, c, h1, h2, h3, h4, h5⟩ := h.c1
  exact ⟨Nat.lt_of_lt_of_le h.lt hb.size, h.few, h.le, (hb.cell (p := ⟨g, 0, none⟩) h.lt).trans h.c0, (hb.frozen (p := ⟨g, 0, none⟩) h.lt).trans h.f0,
    A, c, (hb.cell (p := ⟨g, 1, none⟩) h.lt).trans h1, (hb.frozen (p := ⟨g, 1, none⟩) h.lt).trans h2, h3.below hb, h4, h5⟩
theorem WordsAt.step {w : World} {g a : Nat} {ws : List Wd} (h : WordsAt w g a ws) (hl : a < ws.length) : WordsAt (w.setCell ⟨g, 0, none⟩ (.int .i64 (a + 1))) g (a + 1) ws := by
  obtain ⟨A, c, h1, h2, h3, h4, h5⟩ := h.c1
  refine ⟨by simpa using h.lt, h.few, hl, World.cell?_setCell_same _ _ _ h.c0, by rw [World.frozen?_setCell]; exact h.f0, A, c, ?_, by rw [World.frozen?_setCell]; exact h2, ⟨fun hne => ?_⟩, h4, h5⟩
  · rw [World.cell?_setCell_other _ _ _ _ (by simp)]; exact h1
  · obtain ⟨b, off, e, hb, hc⟩ := h3.at_ hne
    refine ⟨b, off, e, by simpa using hb, fun j u hu => ?_⟩
    have := h5 b off e
    rw [World.cell?_setCell_other _ _ _ _ (by intro e2; injection e2 with e2; exact this e2.symm)]
    exact hc j u hu
def CutSays (s : ByteArray) (w : World) (e : Ending) (w' : World) : Prop :=
  Below w.heap.size w w' ∧
  ((4000 < s.size ∧ e = .returned (.tuple #[.pointer none, .int .i64 2, .int .i64 0])) ∨
   (s.size ≤ 4000 ∧ cutE 1 (linesL s) ≠ 0 ∧ e = .returned (.tuple #[.pointer none, .int .i64 22, .int .i64 (cutE 1 (linesL s))])) ∨
   (s.size ≤ 4000 ∧ cutE 1 (linesL s) = 0 ∧ ∃ g, w.heap.size ≤ g ∧ e = .returned (.tuple #[.pointer (some ⟨g, 0, none⟩), .int .i64 0, .int .i64 0]) ∧ WordsAt w' g 0 (cutW 1 (linesL s))))
theorem grown_trans' {a b c : World} {row : Option Nat} (h : a.grownBy b row) (k : b.grownBy c row) : a.grownBy c row :=
  ⟨k.os.trans h.os, k.tape.trans h.tape, k.output.trans h.output, Nat.le_trans h.size k.size, fun i hi hne => (k.block i (Nat.lt_of_lt_of_le hi h.size) hne).trans (h.block i hi hne)⟩
theorem grown_of_below {a b : World} (h : Below a.heap.size a b) (row : Option Nat) : a.grownBy b row := ⟨h.os, h.tape, h.output, h.size, fun i hi _ => h.block i hi⟩
/-- A text's words while they are being cut: block g is the pointer's; w2 is the world behind strings.Split. -/
structure CutIn (w2 : World) (g : Nat) (ws : List Wd) (v : Value) (wr : World) : Prop where
  gr : w2.grownBy wr (some g)
  c0 : wr.cell? ⟨g, 0, none⟩ = some (.int .i64 0)
  f0 : wr.frozen? ⟨g, 0, none⟩ = false
  c1 : wr.cell? ⟨g, 1, none⟩ = some v
  f1 : wr.frozen? ⟨g, 1, none⟩ = false
  own : wr.ownsRow w2.heap.size 44 3 v ws.length (wrow ws)
theorem CutIn.below {w2 : World} {g : Nat} {ws : List Wd} {v : Value} {wr w' : World} (h : CutIn w2 g ws v wr) (hg : g < w2.heap.size) (hb : Below wr.heap.size wr w') : CutIn w2 g ws v w' := by
  have hlt : g < wr.heap.size := Nat.lt_of_lt_of_le hg h.gr.size
  exact ⟨grown_trans' h.gr (grown_of_below hb _), (hb.cell (p := ⟨g, 0, none⟩) hlt).trans h.c0, (hb.frozen (p := ⟨g, 0, none⟩) hlt).trans h.f0,
    (hb.cell (p := ⟨g, 1, none⟩) hlt).trans h.c1, (hb.frozen (p := ⟨g, 1, none⟩) hlt).trans h.f1, own_below h.own hb⟩
theorem CutIn.put {w2 : World} {g : Nat} {ws ws' : List Wd} {v v' : Value} {wr w3 : World} (h : CutIn w2 g ws v wr) (hg : g < w2.heap.size) (hgr : wr.grownBy w3 v.ownBlock)
    (hown : w3.ownsRow w2.heap.size 44 3 v' ws'.length (wrow ws')) : CutIn w2 g ws' v' (w3.setCell ⟨g, 1, none⟩ v') := by
  have hlt : g < wr.heap.size := Nat.lt_of_lt_of_le hg h.gr.size
  have hne : some g ≠ Value.ownBlock _ := fun e => by have := (h.own.lt g e.symm).1; omega
  have hbl := hgr.block g hlt hne
  have e1 : w3.cell? ⟨g, 1, none⟩ = some v := (World.cell?_of_block (a := ⟨g, 1, none⟩) hbl).trans h.c1
  refine ⟨⟨hgr.os.trans h.gr.os, hgr.tape.trans h.gr.tape, hgr.output.trans h.gr.output, by have := h.gr.size; have := hgr.size; simp; omega, fun k hk hkn => ?_⟩, ?_, ?_, ?_, ?_, ?_⟩
  · rw [Below.heap_setCell _ _ _ _ (fun e => hkn (by rw [e])), hgr.block k (Nat.lt_of_lt_of_le hk h.gr.size) (fun e => by have := (h.own.lt k e.symm).1; omega)]
    exact h.gr.block k hk hkn
  · rw [World.cell?_setCell_other _ _ _ _ (by simp)]; exact (World.cell?_of_block (a := ⟨g, 0, none⟩) hbl).trans h.c0
  · rw [World.frozen?_setCell]; exact (World.frozen?_of_block (a := ⟨g, 0, none⟩) hbl).trans h.f0
  · exact World.cell?_setCell_same _ _ _ e1
  · rw [World.frozen?_setCell]; exact (World.frozen?_of_block (a := ⟨g, 1, none⟩) hbl).trans h.f1
  · exact ownsRow_setCell_other hown (fun e => by have := (hown.lt g e).1; omega) v'
theorem wrow_one (l : List Wd) : ∀ u ∈ wrow l, u.oneCell' = true := by
  intro u hu
  obtain ⟨x, _, hx⟩ := List.mem_flatMap.1 hu
  simp [wcells] at hx
  rcases hx with rfl | rfl | rfl <;> rfl
theorem all_snoc {L : List (List UInt8)} {k : Nat} {x : List UInt8} (h : L.take (k + 1) = L.take k ++ [x]) (ha : ∀ l ∈ L.take k, l.all okB = true) (hx : x.all okB = true) : ∀ l ∈ L.take (k + 1), l.all okB = true := by
  rw [h]
  intro l hl
  rcases List.mem_append.1 hl with hl | hl
  · exact ha l hl
  · simp only [List.mem_singleton] at hl; subst hl; exact hx
theorem sclone_any (s : ByteArray) (w : World) (hs : s.size ≤ 281474976710656) : Calls Tryd.prog 15 #[.string s] w fun e w' => e = .returned (.string s) ∧ Below w.heap.size w w' := by
  go_enter Tryd.func15, Tryd.ntmps15
  go_wp2_with (first
      | (go_at_call 51; refine (Tryd.stringslite_Clone s _ (by omega)).mono ?_; rintro e w1 ⟨rfl, hb1⟩))
  go_ret
  exact ⟨rfl, hb1⟩
set_option maxRecDepth 100000 in
set_option maxHeartbeats 4000000 in
theorem cut_any (s : ByteArray) (w : World) (hs : s.size ≤ maxLen) (hm : ∃ m : Int, w.cell? ⟨0, 0, none⟩ = some (.int .i64 m)) :
    Calls Tryd.prog 6 #[.string s] w (CutSays s w) := by
  unfold maxLen at hs
  by_cases h4 : 4000 < s.size
  · go_enter Tryd.func6, Tryd.ntmps6
    go_wp2_with fail
    go_ret3
    exact ⟨Below.refl _ _, .inl ⟨h4, rfl⟩⟩
  · obtain ⟨i0, hi, hz0, hz1, hz2⟩ := info_parts info_word
    obtain ⟨mx, hmx⟩ := hm
    have hlt0 : 0 < w.heap.size := by have := block_lt_of_cell hmx; simpa using this
    go_enter Tryd.func6, Tryd.ntmps6
    have hc0 : (w.alloc (.cells #[.int .i64 0, .slice none 0 0] 56)).cell? ⟨0, 0, none⟩ = some (.int .i64 mx) := (World.cell?_alloc_past _ 0 0 hlt0).trans hmx
    go_wp2_with (first
      | (go_at_call 15; refine (sclone_any s _ (by omega)).mono ?_; rintro e w1 ⟨rfl, hb1⟩)
      | (go_at_call 14; refine (Tryd.strings_Split s ⟨#[10]⟩ mx w1 (by omega) (by first | exact (hb1.cell (p := ⟨0, 0, none⟩) (by simp)).trans hc0) (by decide)).mono ?_; rintro e w2 ⟨rfl, hb2⟩; replace hb2 := Lib.hid hb2))
    obtain ⟨LS, hLS⟩ : ∃ LS, LS = linesB s := ⟨_, rfl⟩
    have hls : (Lib.countB s ⟨#[10]⟩ + 1 : Nat) = LS.length := by rw [hLS, lines_len]
    have hsz : ∀ l ∈ LS, l.size ≤ 4000 := fun l hl => by rw [hLS] at hl; have := lines_size s l hl; omega
    have hfew : LS.length ≤ 4001 := by have := lines_few s; rw [hLS]; omega
    replace hb2 := hb2.out
    rw [show Lib.splitB ⟨#[10]⟩ 0 (Lib.countB s ⟨#[10]⟩) s = LS from hLS.symm] at hb2
    have HLS := Lib.hid hLS
    clear hLS
    obtain ⟨lb, hlb⟩ : ∃ lb, lb = w1.heap.size := ⟨_, rfl⟩
    obtain ⟨g, hg⟩ : ∃ g, g = w.heap.size := ⟨_, rfl⟩
    have hgl : g < lb := by have := hb1.size; simp at this; omega
    have hw2 : w2.heap.size = lb + 1 := by rw [hb2]; simp [hlb]
    have hb02 : Below g w w2 := by rw [hb2, hg]; exact (((Below.refl _ w).alloc (Nat.le_refl _) _).trans (hb1.mono (by simp))).alloc (by omega) _
    have I0 : CutIn w2 g [] (.slice none 0 0) w2 := by
      have hlt : g < w2.heap.size := by omega
      refine ⟨⟨rfl, rfl, rfl, Nat.le_refl _, fun _ _ _ => rfl⟩, ?_, ?_, ?_, ?_, World.ownsRow_nil _ _ _ _⟩
      · rw [hb2, World.cell?_alloc_past _ _ _ (by omega), hb1.cell (by simp [hg]), World.cell?_alloc_at _ _ _ _ hg]; rfl
      · rw [hb2, World.frozen?_alloc_past _ _ _ (by omega), hb1.frozen (by simp [hg]), World.frozen?_alloc_at _ _ _ _ hg]
      · rw [hb2, World.cell?_alloc_past _ _ _ (by omega), hb1.cell (by simp [hg]), World.cell?_alloc_at _ _ _ _ hg]; rfl
      · rw [hb2, World.frozen?_alloc_past _ _ _ (by omega), hb1.frozen (by simp [hg]), World.frozen?_alloc_at _ _ _ _ hg]
    have hlines : ∀ j (h : j < LS.length), w2.cell? ⟨lb, j, none⟩ = some (.string LS[j]) := fun j h => by
      rw [hb2, World.cell?_alloc_at _ _ _ _ hlb]; simp [h]
    rw [← hlb, ← hg]
    have hgw : g < w2.heap.size := by omega
    have hb02' : Below w.heap.size w w2 := by rw [← hg]; exact hb02
    have hgge : w.heap.size ≤ g := by omega
    clear hb1 hb2 hw2 hc0 hmx
    rw [hls, show ((Lib.countB s ⟨#[10]⟩ : Nat) : Int) + 1 = (LS.length : Int) from by omega]
    clear hls hlb hg
    have HFEW := Lib.hid hfew
    go_loopw [19] (fun i wr => ∃ (k : Nat) (v : Value), k ≤ LS.length ∧ i = .int .i64 k ∧ CutIn w2 g (cutW 1 ((LS.map ByteArray.toList).take k)) v wr ∧ (∀ l ∈ (LS.map ByteArray.toList).take k, l.all okB = true) ∧ (cutW 1 ((LS.map ByteArray.toList).take k)).length ≤ k * 4000) (fun i _ => LS.length - (intOf i).toNat)
    case atStart => exact ⟨0, _, Nat.zero_le _, rfl, I0, by simp, by simp [cutW]⟩
    case round =>
      obtain ⟨k, v, hk, rfl, hI, hall, hcnt⟩ := hrel
      have HA := Lib.hid hall
      clear hall
      by_cases hlt : k < LS.length
      · have hcell := (hI.gr.cell (hlines k hlt) (by simp; omega))
        have hlsz := hsz _ (List.getElem_mem hlt)
        obtain ⟨ln, hln⟩ : ∃ ln, ln = LS[k] := ⟨_, rfl⟩
        rw [← hln] at hcell hlsz
        have HLN := Lib.hid hln
        clear hln
        obtain ⟨A1, c1, rfl, _, _⟩ := own_slice hI.own
        have y0 := hI.c0
        have y1 := hI.c1
        have y3 := hI.f1
        have hLk : (LS.map ByteArray.toList).take (k + 1) = (LS.map ByteArray.toList).take k ++ [ln.toList] := by
          rw [List.take_succ_eq_append_getElem (by simpa using hlt), HLN.out]; simp
        have hLl : ((LS.map ByteArray.toList).take k).length = k := by simp; omega
        have hW : cutW 1 ((LS.map ByteArray.toList).take (k + 1)) = cutW 1 ((LS.map ByteArray.toList).take k) ++ lineWords (k + 1) ln.toList := by
          rw [hLk, cutW_append, hLl]; simp [cutW, Int.add_comm]
        have hlw := lineWords_len (k + 1) ln.toList
        rw [len_toList] at hlw
        have HW := Lib.hid hW
        have HLk := Lib.hid hLk
        have HLl := Lib.hid hLl
        clear hW hLk hLl
        obtain ⟨ws, hws⟩ : ∃ ws, ws = cutW 1 ((LS.map ByteArray.toList).take k) := ⟨_, rfl⟩
        have HWS := Lib.hid hws
        rw [← hws] at hI hcnt HW
        clear hws
        go_wp2_with (first
          | (go_at_call 16; refine (line_any ln (k + 1) _ (by omega) (by omega)).mono ?_; rintro e w3 (⟨hok, v2, rfl, hown2, hb3⟩ | ⟨hok, rfl, hb3⟩)
             rotate_left
             · have HOK := Lib.hid hok
               clear hok
               go_wp2_with fail
               go_ret3
               have hE : cutE 1 (linesL s) = (k : Int) + 1 := by
                 rw [Int.add_comm]
                 have h1 := cutE_at _ ln.toList ((LS.map ByteArray.toList).drop (k + 1)) 1 HA.out HOK.out
                 rw [HLl.out] at h1
                 rw [← h1]
                 congr 1
                 show (linesB s).map ByteArray.toList = _
                 rw [← HLS.out, HLN.out]
                 conv => lhs; rw [← List.take_append_drop k (LS.map ByteArray.toList)]
                 congr 1
                 rw [List.drop_eq_getElem_cons (by simpa using hlt)]; simp
               refine ⟨?_, .inr (.inl ⟨by omega, by rw [hE]; omega, by first | (rw [hE]; done) | (rw [hE]; rfl)⟩)⟩
               exact ((hb02'.grown hI.gr (by omega) (fun j hj => by injection hj with hj; omega)).trans (hb3.mono (by have := hI.gr.size; omega)))
             have HOK := Lib.hid hok
             have hI3 := hI.below hgw hb3
             have z1 := hI3.c1
             have z3 := hI3.f1
             have hsz3 := Nat.le_trans hI.gr.size hb3.size
             clear hok hI y0 y1 y3 hcell
             rcases hown2.2 with ⟨rfl, hz⟩ | ⟨g2, cap2, cur2, rfl, _, _, _, _, _, _⟩)
          | (at_builtin; refine wpList_append_own_none rfl _ _ 49 rfl w2.heap.size 44 i0 3 Tryd.underlying49 hi _ _ _ rfl hI3.own rfl ?_)
          | (at_builtin; refine wpList_append_own _ rfl _ _ 49 rfl w2.heap.size 44 i0 (.agg #[.string ByteArray.empty, .int .i64 0, .int .i64 0]) 3 32 Tryd.underlying49 hi hz0 hz1 hz2 rfl (by decide) _ _ _ rfl hI3.own ⟨g2, 0, none⟩ _ _ (wrow (lineWords (k + 1) ln.toList)) rfl (wrow_len _) (hown2.cells (g := g2) rfl) ?c2 ?c3 ?c4 ?c5 ?_
             case c2 => exact wrow_one _
             case c3 => unfold maxLen; omega
             case c4 => omega
             case c5 => exact hsz3
             intro v' w4 hown4 hgrow4 _
             have hne : some g ≠ Value.ownBlock _ := fun e => by have := (hI3.own.lt g e.symm).1; omega
             have hbl := hgrow4.block g (by omega) hne
             have z5 : w4.cell? ⟨g, 1, none⟩ = _ := (World.cell?_of_block (a := ⟨g, 1, none⟩) hbl).trans z1
             have z6 : w4.frozen? ⟨g, 1, none⟩ = false := (World.frozen?_of_block (a := ⟨g, 1, none⟩) hbl).trans z3
             have e0 : (ws ++ lineWords (k + 1) ln.toList).length = ws.length + (lineWords (k + 1) ln.toList).length := List.length_append
             rw [← wrow_append, ← e0] at hown4
             have hI4 := hI3.put hgw hgrow4 hown4
             obtain ⟨A4, c4, rfl, _, _⟩ := own_slice hown4
             clear hown4 hgrow4 hbl hne z1 z3))
        · have hlw0 : lineWords (k + 1) ln.toList = [] := List.eq_nil_of_length_eq_zero hz
          go_roundw
          case rel => exact ⟨k + 1, _, by omega, by go_num, by rw [HW.out, hlw0, List.append_nil]; exact hI3.put hgw ⟨rfl, rfl, rfl, Nat.le_refl _, fun _ _ _ => rfl⟩ hI3.own, all_snoc HLk.out HA.out HOK.out, by rw [HW.out, List.length_append]; omega⟩
          case measure => simp [intOf]; omega
        · go_roundw
          case rel => exact ⟨k + 1, _, by omega, by go_num, by rw [HW.out, ← e0]; exact hI4, all_snoc HLk.out HA.out HOK.out, by rw [HW.out, List.length_append]; omega⟩
          case measure => simp [intOf]; omega
      · have hke : k = LS.length := by omega
        have hfull : (LS.map ByteArray.toList).take k = linesL s := by
          show _ = (linesB s).map ByteArray.toList
          rw [← HLS.out]; exact List.take_of_length_le (by simp; omega)
        rw [hfull] at hI hcnt
        have hcnt2 : (cutW 1 (linesL s)).length ≤ 16004000 := by omega
        have HALL := Lib.hid (show ∀ l ∈ linesL s, l.all okB = true from by have := HA.out; rwa [hfull] at this)
        have hd : decide ((k : Int) < (LS.length : Int)) = false := decide_eq_false (by omega)
        clear hke hfull HA hcnt
        go_wp2_with fail
        go_ret3
        have hbelow := hb02'.grown hI.gr (by omega) (fun j hj => by injection hj with hj; omega)
        obtain ⟨A1, c1, rfl, hc1, hsl⟩ := own_slice hI.own
        exact ⟨hbelow, .inr (.inr ⟨by omega, cutE_none _ _ HALL.out, g, hgge, rfl, Nat.lt_of_lt_of_le hgw hI.gr.size, hcnt2, Nat.zero_le _, hI.c0, hI.f0, A1, c1, hI.c1, hI.f1, hsl, hc1, fun b off e => by subst e; have := (hI.own.lt b rfl).1; omega⟩)⟩
end Go.Proofs.YtcglbbabfkbcbabDoor
