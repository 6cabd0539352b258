/-
  word.Words: Len, Peek, Next, Line.
-/
import Derived.Test.YtcglbbabfkbcbabDoorWordCut
import Derived.StillTailTactics
import Derived.Laws.ResultCell
namespace Go.Proofs.YtcglbbabfkbcbabDoor
open Go.RowKit

theorem len_any (w : World) (g a : Nat) (ws : List Wd) (h : WordsAt w g a ws) :
    Calls Tryd.prog 7 #[.pointer (some ⟨g, 0, none⟩)] w fun e w' => e = .returned (.int .i64 ((ws.length - a : Nat) : Int)) ∧ Below w.heap.size w w' := by
  obtain ⟨A, c, h1, h2, h3, h4, h5⟩ := h.c1
  have y0 := h.c0
  have hle := h.le
  have hfew := h.few
  have hw : IntKind.i64.wrap ((ws.length : Int) - a) = (ws.length : Int) - a := IntWalk.i64_in _ (by omega)
  go_enter Tryd.func7, Tryd.ntmps7
  go_wp2_with fail
  go_quiet (fail)
  go_wp2_with fail
  go_ret
  exact ⟨ret_int (by omega), below_drewN (Below.refl _ _) _⟩
theorem len_nil (w : World) :
    Calls Tryd.prog 7 #[.pointer none] w fun e w' => e = .returned (.int .i64 0) ∧ w = w' := by
  go_enter Tryd.func7, Tryd.ntmps7
  go_wp2_with fail
  go_ret
  exact ⟨rfl, rfl⟩
def wagg (x : Wd) : Value := .agg #[.string ⟨x.text.toArray⟩, .int .i64 x.line, .int .i64 x.col]
def zeroWord : Value := .agg #[.string ByteArray.empty, .int .i64 0, .int .i64 0]
def peekV (a : Nat) (ws : List Wd) : Value := match ws[a]? with
  | some x => .tuple #[wagg x, .bool true]
  | none => .tuple #[zeroWord, .bool false]
theorem res_cells {w w1 : World} {T : TypeId} (hb : Below (w.alloc (.cells #[.string ⟨#[]⟩, .int .i64 0, .int .i64 0] T)).heap.size (w.alloc (.cells #[.string ⟨#[]⟩, .int .i64 0, .int .i64 0] T)) w1) :
    w1.cell? ⟨w.heap.size, 0, none⟩ = some (.string ⟨#[]⟩) ∧ w1.cell? ⟨w.heap.size, 1, none⟩ = some (.int .i64 0) ∧ w1.cell? ⟨w.heap.size, 2, none⟩ = some (.int .i64 0) ∧
    w1.frozen? ⟨w.heap.size, 0, none⟩ = false ∧ w1.frozen? ⟨w.heap.size, 1, none⟩ = false ∧ w1.frozen? ⟨w.heap.size, 2, none⟩ = false :=
  ⟨(hb.cell (p := ⟨w.heap.size, 0, none⟩) (by simp)).trans (World.cell?_alloc_at _ _ _ _ rfl), (hb.cell (p := ⟨w.heap.size, 1, none⟩) (by simp)).trans (World.cell?_alloc_at _ _ _ _ rfl),
   (hb.cell (p := ⟨w.heap.size, 2, none⟩) (by simp)).trans (World.cell?_alloc_at _ _ _ _ rfl), (hb.frozen (p := ⟨w.heap.size, 0, none⟩) (by simp)).trans (World.frozen?_alloc_at _ _ _ _ rfl),
   (hb.frozen (p := ⟨w.heap.size, 1, none⟩) (by simp)).trans (World.frozen?_alloc_at _ _ _ _ rfl), (hb.frozen (p := ⟨w.heap.size, 2, none⟩) (by simp)).trans (World.frozen?_alloc_at _ _ _ _ rfl)⟩
set_option maxRecDepth 100000 in
theorem peek_any (w : World) (g a : Nat) (ws : List Wd) (h : WordsAt w g a ws) :
    Calls Tryd.prog 8 #[.pointer (some ⟨g, 0, none⟩)] w fun e w' => e = .returned (peekV a ws) ∧ Below w.heap.size w w' := by
  have h0 := h.below ((Below.refl _ _).alloc (Nat.le_refl _) (.cells #[.string ⟨#[]⟩, .int .i64 0, .int .i64 0] 44))
  have hfew := h.few
  by_cases hl : a < ws.length
  · have hv : peekV a ws = .tuple #[wagg ws[a], .bool true] := by unfold peekV; rw [List.getElem?_eq_getElem hl]
    rw [hv]
    have hz : decide ((((ws.length - a : Nat) : Int)) = 0) = false := decide_eq_false (by omega)
    clear hv
    go_enter Tryd.func8, Tryd.ntmps8
    go_wp2_with (first
      | (go_at_call 7; refine (len_any _ _ _ _ h0).mono ?_; rintro e w1 ⟨rfl, hb⟩
         have h1 := h0.below hb
         obtain ⟨A, c, x1, x2, x3, x4, x5⟩ := h1.c1
         have y0 := h1.c0
         obtain ⟨b, off, rfl, _, hcell⟩ := x3.at_ (fun e => by have := congrArg List.length e; rw [wrow_len] at this; simp at this; omega)
         obtain ⟨g1, g2, g3⟩ := wrow_get ws a hl
         have z1 := hcell _ _ g1
         have z2 := hcell _ _ g2
         have z3 := hcell _ _ g3
         rw [← Nat.add_assoc] at z2 z3
         obtain ⟨q0, q1, q2, q3, q4, q5⟩ := res_cells hb
         clear hcell g1 g2 g3))
    go_still_tail 11, (by kernel_rfl)
    change wpList _ _ _ _ _ w1.drew
    go_wp2_with fail
    (try simp only [Exit.inBlock, Exit.then])
    refine bodyPost_ret (v := .tuple #[wagg ws[a], .bool true]) ?_ rfl ⟨rfl, ?_⟩
    · rw [results_cell_tmp rfl]
      go_simp
      rfl
    · exact ((((((Below.refl w.heap.size w).alloc (Nat.le_refl _) _).trans (hb.mono (by simp))).drew.setCell (by simp) _).setCell (by simp) _).setCell (by simp) _)
  · have hv : peekV a ws = .tuple #[zeroWord, .bool false] := by unfold peekV; rw [List.getElem?_eq_none (by omega)]
    rw [hv]
    have hz : ws.length - a = 0 := by omega
    go_enter Tryd.func8, Tryd.ntmps8
    go_wp2_with (first
      | (go_at_call 7; refine (len_any _ _ _ _ h0).mono ?_; rw [hz]; rintro e w1 ⟨rfl, hb⟩; obtain ⟨q0, q1, q2, q3, q4, q5⟩ := res_cells hb))
    (try simp only [Exit.inBlock, Exit.then])
    refine bodyPost_ret (v := .tuple #[zeroWord, .bool false]) ?_ rfl ⟨rfl, ?_⟩
    · rw [results_cell_tmp rfl]
      go_simp
      rfl
    · exact ((((((Below.refl w.heap.size w).alloc (Nat.le_refl _) _).trans (hb.mono (by simp))).setCell (by simp) _).setCell (by simp) _).setCell (by simp) _)
theorem peek_nil (w : World) :
    Calls Tryd.prog 8 #[.pointer none] w fun e w' => e = .returned (.tuple #[zeroWord, .bool false]) ∧ Below w.heap.size w w' := by
  go_enter Tryd.func8, Tryd.ntmps8
  go_wp2_with (first
    | (go_at_call 7; refine (len_nil _).mono ?_; rintro e w1 ⟨rfl, rfl⟩; obtain ⟨q0, q1, q2, q3, q4, q5⟩ := res_cells (Below.refl (w.alloc (.cells #[.string ⟨#[]⟩, .int .i64 0, .int .i64 0] 44)).heap.size (w.alloc (.cells #[.string ⟨#[]⟩, .int .i64 0, .int .i64 0] 44)))))
  (try simp only [Exit.inBlock, Exit.then])
  refine bodyPost_ret (v := .tuple #[zeroWord, .bool false]) ?_ rfl ⟨rfl, ?_⟩
  · rw [results_cell_tmp rfl]
    go_simp
    rfl
  · exact (Below.refl w.heap.size w).alloc (Nat.le_refl _) _
def nextA (a : Nat) (ws : List Wd) : Nat := if a < ws.length then a + 1 else a
theorem grown_set {w w1 : World} {g : Nat} (h : w.grownBy w1 (some g)) {p : Addr} (hp : w.heap.size ≤ p.block ∨ p.block = g) (u : Value) : w.grownBy (w1.setCell p u) (some g) :=
  ⟨h.os, h.tape, h.output, by have := h.size; simpa using this, fun k hk hne => by
    have e : k ≠ p.block := fun e => hp.elim (fun hp => by omega) (fun hp => hne (by rw [e, hp]))
    rw [Below.heap_setCell _ _ _ _ e]
    exact h.block k hk hne⟩
theorem WordsAt.grow {w w' : World} {g a a' : Nat} {ws : List Wd} (h : WordsAt w g a ws) (hg : w.grownBy w' (some g)) (c0 : w'.cell? ⟨g, 0, none⟩ = some (.int .i64 a')) (f0 : w'.frozen? ⟨g, 0, none⟩ = false)
    (c1 : w'.cell? ⟨g, 1, none⟩ = w.cell? ⟨g, 1, none⟩) (f1 : w'.frozen? ⟨g, 1, none⟩ = w.frozen? ⟨g, 1, none⟩) (le : a' ≤ ws.length) : WordsAt w' g a' ws := by
  obtain ⟨A, c, h1, h2, h3, h4, h5⟩ := h.c1
  refine ⟨Nat.lt_of_lt_of_le h.lt hg.size, h.few, le, c0, f0, A, c, c1.trans h1, f1.trans h2, ⟨fun hne => ?_⟩, h4, h5⟩
  obtain ⟨b, off, e, hb, hc⟩ := h3.at_ hne
  exact ⟨b, off, e, Nat.lt_of_lt_of_le hb hg.size, fun j u hu => hg.cell (hc j u hu) (by simp; exact h5 b off e)⟩
set_option maxRecDepth 100000 in
set_option maxHeartbeats 1000000 in
theorem next_any (w : World) (g a : Nat) (ws : List Wd) (h : WordsAt w g a ws) :
    Calls Tryd.prog 12 #[.pointer (some ⟨g, 0, none⟩)] w fun e w' => e = .returned (peekV a ws) ∧ WordsAt w' g (nextA a ws) ws ∧ w.grownBy w' (some g) ∧ w'.cell? ⟨g, 1, none⟩ = w.cell? ⟨g, 1, none⟩ := by
  have h0 := h.below ((Below.refl _ _).alloc (Nat.le_refl _) (.cells #[.string ⟨#[]⟩, .int .i64 0, .int .i64 0] 44))
  have hfew := h.few
  have hglt := h.lt
  by_cases hl : a < ws.length
  · have hv : peekV a ws = .tuple #[.agg #[.string ⟨ws[a].text.toArray⟩, .int .i64 ws[a].line, .int .i64 ws[a].col], .bool true] := by unfold peekV; rw [List.getElem?_eq_getElem hl]; rfl
    have hx : nextA a ws = a + 1 := by unfold nextA; rw [if_pos hl]
    rw [hx, hv]
    clear hx
    go_enter Tryd.func12, Tryd.ntmps12
    go_wp2_with (first
      | (go_at_call 8; refine (peek_any _ _ _ _ h0).mono ?_; rw [hv]; rintro e w1 ⟨rfl, hb⟩
         have h1 := h0.below hb
         have y0 := h1.c0
         have y1 := h1.f0
         obtain ⟨q0, q1, q2, q3, q4, q5⟩ := res_cells hb
         have hg1 : g < w1.heap.size := h1.lt
         have hq1 : w.heap.size < w1.heap.size := by have := hb.size; simp at this; omega
         have hw : IntKind.i64.wrap ((a : Int) + 1) = (a : Int) + 1 := IntWalk.i64_in _ (by omega)))
    (try simp only [Exit.inBlock, Exit.then])
    have hgr : w.grownBy w1 (some g) := grown_of_below (((Below.refl w.heap.size w).alloc (Nat.le_refl _) _).trans (hb.mono (by simp))) _
    have hgr2 := grown_trans' (grown_set (grown_set (grown_set (grown_set hgr (p := ⟨g, 0, none⟩) (.inr rfl) (.int .i64 ((a : Int) + 1)))
      (p := ⟨w.heap.size, 0, none⟩) (.inl (Nat.le_refl _)) (.string ⟨ws[a].text.toArray⟩)) (p := ⟨w.heap.size, 1, none⟩) (.inl (Nat.le_refl _)) (.int .i64 ws[a].line)) (p := ⟨w.heap.size, 2, none⟩) (.inl (Nat.le_refl _)) (.int .i64 ws[a].col)) (World.grownBy_alloc _ (.cells #[.string ⟨ws[a].text.toArray⟩, .int .i64 ws[a].line, .int .i64 ws[a].col] 44) _)
    have hgn : ∀ i j, (⟨w.heap.size, i, none⟩ : Addr) ≠ ⟨g, j, none⟩ := fun i j e => by injection e with e; omega
    have F1 : ∀ v0 v1 v2 v3 o, ((((((w1.setCell ⟨g, 0, none⟩ v0).setCell ⟨w.heap.size, 0, none⟩ v1).setCell ⟨w.heap.size, 1, none⟩ v2).setCell ⟨w.heap.size, 2, none⟩ v3).alloc o).cell? ⟨g, 0, none⟩ = some v0) ∧ ((((((w1.setCell ⟨g, 0, none⟩ v0).setCell ⟨w.heap.size, 0, none⟩ v1).setCell ⟨w.heap.size, 1, none⟩ v2).setCell ⟨w.heap.size, 2, none⟩ v3).alloc o).cell? ⟨g, 1, none⟩ = w1.cell? ⟨g, 1, none⟩) ∧
        ∀ i, (((((w1.setCell ⟨g, 0, none⟩ v0).setCell ⟨w.heap.size, 0, none⟩ v1).setCell ⟨w.heap.size, 1, none⟩ v2).setCell ⟨w.heap.size, 2, none⟩ v3).alloc o).frozen? ⟨g, i, none⟩ = w1.frozen? ⟨g, i, none⟩ := fun v0 v1 v2 v3 o => by
      refine ⟨?_, ?_, fun i => ?_⟩
      · rw [World.cell?_alloc_past _ _ _ (by simpa using hg1), World.cell?_setCell_other _ _ _ _ (hgn _ _), World.cell?_setCell_other _ _ _ _ (hgn _ _), World.cell?_setCell_other _ _ _ _ (hgn _ _), World.cell?_setCell_same _ _ _ y0]
      · rw [World.cell?_alloc_past _ _ _ (by simpa using hg1), World.cell?_setCell_other _ _ _ _ (hgn _ _), World.cell?_setCell_other _ _ _ _ (hgn _ _), World.cell?_setCell_other _ _ _ _ (hgn _ _), World.cell?_setCell_other _ _ _ _ (by simp)]
      · rw [World.frozen?_alloc_past _ _ _ (by simpa using hg1), World.frozen?_setCell, World.frozen?_setCell, World.frozen?_setCell, World.frozen?_setCell]
    refine bodyPost_ret (v := .tuple #[.agg #[.string ⟨ws[a].text.toArray⟩, .int .i64 ws[a].line, .int .i64 ws[a].col], .bool true]) ?_ rfl ⟨rfl, ?_, hgr2, ?_⟩
    · rw [results_cell_tmp rfl]
      go_simp
    · have hg0 := hgr.block g hglt
      have E1 : w1.cell? ⟨g, 1, none⟩ = w.cell? ⟨g, 1, none⟩ := by
        rw [hb.cell (by simp; omega), World.cell?_alloc_past _ _ _ hglt]
      have E2 : w1.frozen? ⟨g, 1, none⟩ = w.frozen? ⟨g, 1, none⟩ := by
        rw [hb.frozen (by simp; omega), World.frozen?_alloc_past _ _ _ hglt]
      exact h.grow hgr2 (F1 _ _ _ _ _).1 (((F1 _ _ _ _ _).2.2 0).trans y1) ((F1 _ _ _ _ _).2.1.trans E1) (((F1 _ _ _ _ _).2.2 1).trans E2) hl
    · exact (F1 _ _ _ _ _).2.1.trans (by rw [hb.cell (by simp; omega), World.cell?_alloc_past _ _ _ hglt])
  · have hv : peekV a ws = .tuple #[.agg #[.string ByteArray.empty, .int .i64 0, .int .i64 0], .bool false] := by unfold peekV; rw [List.getElem?_eq_none (by omega)]; rfl
    have hx : nextA a ws = a := by unfold nextA; rw [if_neg hl]
    rw [hx, hv]
    go_enter Tryd.func12, Tryd.ntmps12
    go_wp2_with (first
      | (go_at_call 8; refine (peek_any _ _ _ _ h0).mono ?_; rw [hv]; rintro e w1 ⟨rfl, hb⟩; obtain ⟨q0, q1, q2, q3, q4, q5⟩ := res_cells hb
         have hq1 : w.heap.size < w1.heap.size := by have := hb.size; simp at this; omega))
    (try simp only [Exit.inBlock, Exit.then])
    have hbel := ((((((Below.refl w.heap.size w).alloc (Nat.le_refl _) _).trans (hb.mono (by simp))).setCell (p := ⟨w.heap.size, 0, none⟩) (Nat.le_refl _) (.string ByteArray.empty)).setCell (p := ⟨w.heap.size, 1, none⟩) (Nat.le_refl _) (.int .i64 0)).setCell (p := ⟨w.heap.size, 2, none⟩) (Nat.le_refl _) (.int .i64 0)).alloc (by simp; omega) (.cells #[.string ByteArray.empty, .int .i64 0, .int .i64 0] 44)
    refine bodyPost_ret (v := .tuple #[.agg #[.string ByteArray.empty, .int .i64 0, .int .i64 0], .bool false]) ?_ rfl ⟨rfl, h.below hbel, grown_of_below hbel _, hbel.cell (p := ⟨g, 1, none⟩) hglt⟩
    rw [results_cell_tmp rfl]
    go_simp
end Go.Proofs.YtcglbbabfkbcbabDoor
