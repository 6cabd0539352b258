/-
  WordCuts: what is plain about it.
-/
import Derived.Test.YtcglbbabfkbcbabDoorBookCut
import Derived.Test.YtcglbbabfkbcbabDoorBookApartWords
import Derived.Test.YtcglbbabfkbcbabDoorBookWordsA
import Derived.Test.YtcglbbabfkbcbabDoorWordRefK
import Derived.Test.YtcglbbabfkbcbabDoorWordAliveK
import Derived.Test.YtcglbbabfkbcbabDoorSlCut
namespace Go.Proofs.YtcglbbabfkbcbabDoor
open Go.RowKit Go.Deep

theorem linesOf_sum : ∀ l : List UInt8, ((linesOf l).map List.length).sum ≤ l.length
  | [] => by simp [linesOf]
  | c :: r => by
    have ih := linesOf_sum r
    unfold linesOf
    by_cases hc : c = 10
    · rw [if_pos hc]; simp; omega
    · rw [if_neg hc]
      cases hl : linesOf r with
      | nil => simp
      | cons y ys => rw [hl] at ih; simp at ih ⊢; omega
theorem cutW_sum : ∀ (ls : List (List UInt8)) (n : Int), (cutW n ls).length ≤ (ls.map List.length).sum
  | [], _ => by simp [cutW]
  | l :: r, n => by
    have h1 := cutW_sum r (n + 1)
    have h2 := lineWords_len n l
    simp [cutW]; omega
theorem cutW_few (s : ByteArray) : (cutW 1 (linesL s)).length ≤ s.size := by
  rw [linesL_is]
  have h1 := cutW_sum (linesOf s.toList) 1
  have h2 := linesOf_sum s.toList
  rw [len_toList] at h2
  omega
theorem bkWords_nil (w : World) (B : Nat) : BkWords w B noFs [] := ⟨⟨.slice none 0 0, [], .slice none 0 0, [], rfl, rfl, World.ownsRow_nil _ _ _ _, World.ownsRow_nil _ _ _ _, .inl rfl, Kept.nil _ _, Kept.nil _ _⟩, by simp⟩
theorem BkWords.cut {w w' : World} {g B : Nat} {fs : Array Value} {ls : List (List Wd)} (h : BkWords w B fs ls) (hg : w.grownBy w' (some g)) (hB : g < B) : BkWords (cutAt w' w.heap.size) B fs ls := by
  obtain ⟨vX, vs, vW, ws, e1, e2, r1, r2, hap, k1, k2⟩ := h.ex
  exact ⟨⟨vX, vs, vW, ws, e1, e2, cut_own hg r1 (Nat.le_refl _) hB, cut_own hg r2 (Nat.le_refl _) hB, hap, cut_kept k1 hg hB, cut_kept k2 hg hB⟩, h.ok⟩
theorem BkWords.grown {w w' : World} {g B : Nat} {fs : Array Value} {ls : List (List Wd)} (h : BkWords w B fs ls) (hg : w.grownBy w' (some g)) (hB : g < B) : BkWords w' B fs ls := by
  have h1 := h.cut hg hB
  exact h1.below (cutAt_below hg.size)
theorem LineMem.stands {w w2 w3 : World} {T : TypeId} {B bk g a a0 : Nat} {ws : List Wd} (h : LineMem w g a ws w2) (h0 : WordsAt w g a0 ws) (hs : Stands B bk T w2 w3) (h1 : w.heap.size ≤ bk) (h2 : w.heap.size ≤ B) : LineMem w g a ws w3 := by
  have hlt := h0.lt
  have hsz := h.gr.size
  have hb := hs.block g (by omega) (by omega) (.inl (by omega))
  have hgr : w.grownBy w3 (some g) := ⟨hs.os.trans h.gr.os, hs.tape.trans h.gr.tape, hs.output.trans h.gr.output, Nat.le_trans h.gr.size hs.size, fun k hk hkn => (hs.block k (by omega) (by omega) (.inl (by omega))).trans (h.gr.block k hk hkn)⟩
  have e1 : w3.cell? ⟨g, 1, none⟩ = w.cell? ⟨g, 1, none⟩ := (World.cell?_of_block (a := ⟨g, 1, none⟩) hb).trans h.k1
  have e2 : w3.frozen? ⟨g, 1, none⟩ = w.frozen? ⟨g, 1, none⟩ := (World.frozen?_of_block (a := ⟨g, 1, none⟩) hb).trans h.k2
  exact ⟨h0.grow hgr ((World.cell?_of_block (a := ⟨g, 0, none⟩) hb).trans h.at_.c0) ((World.frozen?_of_block (a := ⟨g, 0, none⟩) hb).trans h.at_.f0) e1 e2 h.at_.le, hgr, e1, e2⟩
theorem LineMem.move {w w2 w3 : World} {g a a' a0 : Nat} {ws : List Wd} (h : LineMem w g a ws w2) (h0 : WordsAt w g a0 ws) (h3 : WordsAt w3 g a' ws) (hg : w2.grownBy w3 (some g)) (hc : w3.cell? ⟨g, 1, none⟩ = w2.cell? ⟨g, 1, none⟩) : LineMem w g a' ws w3 :=
  ⟨h3, grown_trans' h.gr hg, hc.trans h.k1, by rw [h3.f1', h0.f1']⟩
/-- What stands throughout. -/
structure WcS (w0 w1 w : World) (g bk B0 a : Nat) (fs : Array Value) (mv : Value) (ws : List Wd) : Prop where
  mem : LineMem w1 g a ws w
  row : w.ownsRow B0 48 3 mv ws.length (wrow ws)
  k : Bx w bk 41 fs
  bel : Below w0.heap.size w0 w
section
variable {w0 w1 w w' : World} {g bk B0 a a0 : Nat} {fs : Array Value} {mv : Value} {ws : List Wd}
theorem WcS.below (h : WcS w0 w1 w g bk B0 a fs mv ws) (h0 : WordsAt w1 g a0 ws) (hb : Below w.heap.size w w') : WcS w0 w1 w' g bk B0 a fs mv ws :=
  ⟨h.mem.below h0 hb, bk_below h.row hb, h.k.below hb, h.bel.trans (hb.mono h.bel.size)⟩
theorem WcS.move {a' : Nat} (h : WcS w0 w1 w g bk B0 a fs mv ws) (h0 : WordsAt w1 g a0 ws) (h3 : WordsAt w' g a' ws) (hg : w.grownBy w' (some g)) (hc : w'.cell? ⟨g, 1, none⟩ = w.cell? ⟨g, 1, none⟩) (hv : ∀ q, mv.ownBlock = some q → q < g) (hgb : bk ≠ g) (hg0 : w0.heap.size ≤ g) : WcS w0 w1 w' g bk B0 a' fs mv ws :=
  ⟨h.mem.move h0 h3 hg hc, h.row.kept hg (by
    cases hq : mv.ownBlock with
    | none => exact .inl rfl
    | some q => exact .inr (fun e => by injection e with e; have := hv q hq; omega)), h.k.grown hg (fun e => by injection e with e; exact hgb e), h.bel.grown hg h.bel.size (fun q e => by injection e with e; omega)⟩
end
/-- The part of a list of words from place a on, as a slice. -/
def From (A : Option Addr) (B0 a : Nat) (mv : Value) (ws : List Wd) : Prop := ∀ W : World, W.ownsRow B0 48 3 mv ws.length (wrow ws) → Sl W A (wrow (ws.drop a))
theorem from_start {w : World} {B0 : Nat} {mv : Value} {ws : List Wd} (h : w.ownsRow B0 48 3 mv ws.length (wrow ws)) : ∃ A c, mv = .slice A ws.length c ∧ ws.length ≤ c ∧ From A B0 0 mv ws := by
  obtain ⟨A, c, rfl, _⟩ := bk_sl h
  refine ⟨A, c, rfl, ?_, fun W hW => ?_⟩
  · rcases h.2 with ⟨e, h0⟩ | ⟨g, cap, cur, e, _, _, h1, _⟩
    · injection e with _ e2; omega
    · injection e with _ e2 e3; omega
  · obtain ⟨A', c', e, hs⟩ := bk_sl hW
    cases e
    exact hs
theorem from_cut {A : Option Addr} {B0 a r c k : Nat} {mv : Value} {ws : List Wd} (h : From A B0 a mv ws) (hr : a + r = ws.length) (hk : k ≤ r) (hc : r ≤ c) :
    ∃ A2, (∀ W, (Instr.slice 24 (.slice A r c) (some (.int .i64 k)) none none).run Tryd.prog W = .ok (.slice A2 (r - k) (c - k)) W) ∧ From A2 B0 (a + k) mv ws := by
  have hz : ∀ W, (sizeOf (Tryd.prog.elem 24)).run Tryd.prog W = .ok 3 W := fun W => by kernel_rfl
  refine ⟨if c = k then A else A.map (·.add (k * 3)), fun W => run_slice_from (W := W) Tryd.underlying24 3 (hz W) A r c k hk, fun W hW => ?_⟩
  have hs := (h W hW).dropC (k * 3) (c = k) (fun e => by rw [wrow_len, List.length_drop]; omega)
  have e : (wrow (ws.drop a)).drop (k * 3) = wrow (ws.drop (a + k)) := by
    have h1 : ws.drop a = (ws.drop a).take k ++ (ws.drop a).drop k := (List.take_append_drop _ _).symm
    have h2 : (wrow ((ws.drop a).take k)).length = k * 3 := by rw [wrow_len, List.length_take, List.length_drop]; congr 1; omega
    conv => lhs; rw [h1, wrow_append, ← h2, List.drop_left]
    rw [List.drop_drop]
  rw [e] at hs
  exact hs
set_option maxRecDepth 100000 in
set_option maxHeartbeats 1000000 in
theorem same_any (t : ByteArray) (l c : Int) (w : World) : Calls Tryd.prog 9 #[.agg #[.string t, .int .i64 l, .int .i64 c], .agg #[.string t, .int .i64 l, .int .i64 c]] w fun e w' => e = .returned (.bool true) ∧ Below w.heap.size w w' := by
  have hb : Below w.heap.size w ((w.alloc (.cells #[.string t, .int .i64 l, .int .i64 c] 44)).alloc (.cells #[.string t, .int .i64 l, .int .i64 c] 48)) := ((Below.refl _ _).alloc (Nat.le_refl _) _).alloc (by simp) _
  go_enter Tryd.func9, Tryd.ntmps9
  go_wp2
  go_ret
  exact ⟨rfl, hb⟩
end Go.Proofs.YtcglbbabfkbcbabDoor
