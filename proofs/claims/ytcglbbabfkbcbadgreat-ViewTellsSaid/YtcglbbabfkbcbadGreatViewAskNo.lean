/-
  view.Ask where the query may not be.
-/
import Derived.Test.YtcglbbabfkbcbadGreatM15
namespace Go.Proofs.YtcglbbabfkbcbadGreat
open Go.ChangeShapes Go.WideShapes Go.ChangeAt Go.RowKit Go.Deep Go.Maps

set_option maxRecDepth 100000 in
set_option maxHeartbeats 4000000 in
theorem ask_no (A : Option Addr) (n c : Nat) (B : Option Addr) (m d : Nat) (r : Rch) (s : ByteArray) (f t : Int) (C : Option Addr) (k e : Nat) (w : World) (hs : s.size ≤ maxLen) (hno : asksE s f t = 1) :
    Calls Tryz.prog 16 #[rchV r.now r.nm A n c B m d, .string s, .int .i64 f, .int .i64 t, .slice C k e] w fun x w' => x = .returned (.tuple #[ansV 0 none 0 0, .int .i64 1]) ∧ Below w.heap.size w w' := by
  obtain ⟨W0, hW0⟩ : ∃ W0, W0 = ((((w.alloc (.cells #[.int .i64 r.now, .string r.nm, .slice A n c, .slice B m d] 46)).alloc (.cells #[.string s] 9)).alloc (.cells #[.int .i64 f] 3)).alloc (.cells #[.int .i64 t] 3)).alloc (.cells #[.int .i64 0, .slice none 0 0] 63) := ⟨_, rfl⟩
  have hz : W0.heap.size = w.heap.size + 5 := by rw [hW0]; simp
  have hb0 : Below w.heap.size w W0 := by
    rw [hW0]
    exact (((((Below.refl w.heap.size w).alloc (Nat.le_refl _) _).alloc (by simp) _).alloc (by simp; omega) _).alloc (by simp; omega) _).alloc (by simp; omega) _
  have B1 : Bx W0 (w.heap.size + 1) 9 #[.string s] := by
    rw [hW0]
    have := Bx.new (w.alloc (.cells #[.int .i64 r.now, .string r.nm, .slice A n c, .slice B m d] 46)) 9 #[.string s]
    simp only [World.size_alloc] at this
    exact ((this.alloc _).alloc _).alloc _
  have B2 : Bx W0 (w.heap.size + 1 + 1) 3 #[.int .i64 f] := by
    rw [hW0]
    have := Bx.new ((w.alloc (.cells #[.int .i64 r.now, .string r.nm, .slice A n c, .slice B m d] 46)).alloc (.cells #[.string s] 9)) 3 #[.int .i64 f]
    simp only [World.size_alloc] at this
    exact (this.alloc _).alloc _
  have B3 : Bx W0 (w.heap.size + 1 + 1 + 1) 3 #[.int .i64 t] := by
    rw [hW0]
    have := Bx.new (((w.alloc (.cells #[.int .i64 r.now, .string r.nm, .slice A n c, .slice B m d] 46)).alloc (.cells #[.string s] 9)).alloc (.cells #[.int .i64 f] 3)) 3 #[.int .i64 t]
    simp only [World.size_alloc] at this
    exact this.alloc _
  have B4 : Bx W0 (w.heap.size + 1 + 1 + 1 + 1) 63 #[.int .i64 0, .slice none 0 0] := by
    rw [hW0]
    have := Bx.new ((((w.alloc (.cells #[.int .i64 r.now, .string r.nm, .slice A n c, .slice B m d] 46)).alloc (.cells #[.string s] 9)).alloc (.cells #[.int .i64 f] 3)).alloc (.cells #[.int .i64 t] 3)) 63 #[.int .i64 0, .slice none 0 0]
    simp only [World.size_alloc] at this
    exact this
  have HV := Lib.hid (fun W => valid_one s W hs 1)
  have hba := (Below.refl W0.heap.size W0).alloc (Nat.le_refl _) (.cells #[.string s] 9)
  have p1 := B1.at_ 0 rfl
  have HB4 := Lib.hid (show ∀ w1, W0.alloc (.cells #[.string s] 9) = w1 → Bx w1 (w.heap.size + 1 + 1 + 1 + 1) 63 #[.int .i64 0, .slice none 0 0] ∧ Below w.heap.size w w1 ∧ w1.cell? ⟨w.heap.size + 1 + 1, 0, none⟩ = some (.int .i64 f) ∧ w1.cell? ⟨w.heap.size + 1 + 1 + 1, 0, none⟩ = some (.int .i64 t) from fun w1 h1 => by
    rw [← h1]; exact ⟨B4.below hba, hb0.trans (hba.mono hb0.size), (B2.below hba).at_ 0 rfl, (B3.below hba).at_ 0 rfl⟩)
  have HNO := Lib.hid hno
  clear hno B1 B2 B3 B4 hba hb0 hz
  cases hv : validB s.toList
  · rw [hv] at HV
    clear hv
    go_enter Tryz.func16, Tryz.ntmps16
    go_upto_region 1 with fail
    rw [← hW0]
    clear hW0
    go_wp2_with (go_at_call 35; refine (HV.out _).mono ?_; rintro e w1 ⟨rfl, hw1⟩; obtain ⟨b4, hbw, p2, p3⟩ := HB4.out w1 hw1; have r0 := b4.at_ 0 (v := .int .i64 0) rfl; have r1 := b4.at_ 1 (v := .slice none 0 0) rfl; have f0 := b4.free 0; have f1 := b4.free 1; clear hw1)
    have X := (b4.set 0 (.int .i64 0)).set 1 (.slice none 0 0)
    have y0 := X.at_ 0 (v := .int .i64 0) rfl
    have y1 := X.at_ 1 (v := .slice none 0 0) rfl
    have hfin := (hbw.setCell (p := ⟨w.heap.size + 1 + 1 + 1 + 1, 0, none⟩) (by simp; omega) (.int .i64 0)).setCell (p := ⟨w.heap.size + 1 + 1 + 1 + 1, 1, none⟩) (by simp; omega) (.slice none 0 0)
    generalize (w1.setCell ⟨w.heap.size + 1 + 1 + 1 + 1, 0, none⟩ (.int .i64 0)).setCell ⟨w.heap.size + 1 + 1 + 1 + 1, 1, none⟩ (.slice none 0 0) = W9 at y0 y1 hfin ⊢
    exact bodyPost_ret (v := .tuple #[ansV 0 none 0 0, .int .i64 1]) (by simp [results, Tryz.results16, go_sem, y0, y1]) rfl ⟨rfl, hfin⟩
  · rw [hv] at HV
    by_cases h0 : f < 0
    · have hd : decide (f < 0) = true := decide_eq_true h0
      clear hv
      go_enter Tryz.func16, Tryz.ntmps16
      go_upto_region 1 with fail
      rw [← hW0]
      clear hW0
      go_wp2_with (go_at_call 35; refine (HV.out _).mono ?_; rintro e w1 ⟨rfl, hw1⟩; obtain ⟨b4, hbw, p2, p3⟩ := HB4.out w1 hw1; have r0 := b4.at_ 0 (v := .int .i64 0) rfl; have r1 := b4.at_ 1 (v := .slice none 0 0) rfl; have f0 := b4.free 0; have f1 := b4.free 1; clear hw1)
      have X := (b4.set 0 (.int .i64 0)).set 1 (.slice none 0 0)
      have y0 := X.at_ 0 (v := .int .i64 0) rfl
      have y1 := X.at_ 1 (v := .slice none 0 0) rfl
      have hfin := (hbw.setCell (p := ⟨w.heap.size + 1 + 1 + 1 + 1, 0, none⟩) (by simp; omega) (.int .i64 0)).setCell (p := ⟨w.heap.size + 1 + 1 + 1 + 1, 1, none⟩) (by simp; omega) (.slice none 0 0)
      generalize (w1.setCell ⟨w.heap.size + 1 + 1 + 1 + 1, 0, none⟩ (.int .i64 0)).setCell ⟨w.heap.size + 1 + 1 + 1 + 1, 1, none⟩ (.slice none 0 0) = W9 at y0 y1 hfin ⊢
      exact bodyPost_ret (v := .tuple #[ansV 0 none 0 0, .int .i64 1]) (by simp [results, Tryz.results16, go_sem, y0, y1]) rfl ⟨rfl, hfin⟩
    · have hd : decide (f < 0) = false := decide_eq_false h0
      have h1 : t < f := by
        have := HNO.out
        unfold asksE at this
        rcases Int.lt_or_le t f with h | h
        · exact h
        · rw [if_pos ⟨hv, by omega, h⟩] at this; cases this
      have hd2 : decide (t < f) = true := decide_eq_true h1
      clear hv
      go_enter Tryz.func16, Tryz.ntmps16
      go_upto_region 1 with fail
      rw [← hW0]
      clear hW0
      go_wp2_with (go_at_call 35; refine (HV.out _).mono ?_; rintro e w1 ⟨rfl, hw1⟩; obtain ⟨b4, hbw, p2, p3⟩ := HB4.out w1 hw1; have r0 := b4.at_ 0 (v := .int .i64 0) rfl; have r1 := b4.at_ 1 (v := .slice none 0 0) rfl; have f0 := b4.free 0; have f1 := b4.free 1; clear hw1)
      have X := (b4.set 0 (.int .i64 0)).set 1 (.slice none 0 0)
      have y0 := X.at_ 0 (v := .int .i64 0) rfl
      have y1 := X.at_ 1 (v := .slice none 0 0) rfl
      have hfin := (hbw.setCell (p := ⟨w.heap.size + 1 + 1 + 1 + 1, 0, none⟩) (by simp; omega) (.int .i64 0)).setCell (p := ⟨w.heap.size + 1 + 1 + 1 + 1, 1, none⟩) (by simp; omega) (.slice none 0 0)
      generalize (w1.setCell ⟨w.heap.size + 1 + 1 + 1 + 1, 0, none⟩ (.int .i64 0)).setCell ⟨w.heap.size + 1 + 1 + 1 + 1, 1, none⟩ (.slice none 0 0) = W9 at y0 y1 hfin ⊢
      exact bodyPost_ret (v := .tuple #[ansV 0 none 0 0, .int .i64 1]) (by simp [results, Tryz.results16, go_sem, y0, y1]) rfl ⟨rfl, hfin⟩
end Go.Proofs.YtcglbbabfkbcbadGreat
