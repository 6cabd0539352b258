/-
  policy.Read: a policy's text that may be.
-/
import Derived.Test.YtnnamhomapagiaaGreatDoorPolParse
import Derived.Test.YtnnamhomapagiaaGreatDoorPolPrint
namespace Go.Proofs.YtnnamhomapagiaaGreatDoor
open Go.ChangeShapes Go.WideShapes Go.ChangeAt Go.RowKit Go.Deep

def readT (s : ByteArray) : Rd := match parseT s with
  | .bad e a => .bad e a
  | .good nm ts => if (checkR nm ts).1 = 0 then .good nm ts else .bad (checkR nm ts).1 (checkR nm ts).2
theorem tiersR_bad (nm : List UInt8) : ∀ (f : Nat) (l : List Wd) (acc : List Ti) (e a : Int), tiersR nm f l acc = .bad e a → e = 22
  | 0, _, _, _, _, h => by simp [tiersR] at h
  | f + 1, l, acc, e, a, h => by
    unfold tiersR at h
    split at h
    · cases h
    · split at h
      · exact tiersR_bad nm f _ _ e a h
      · injection h with h1 _; exact h1.symm
theorem parseT_bad {s : ByteArray} {e a : Int} (h : parseT s = .bad e a) : e = 2 ∨ e = 22 := by
  unfold parseT at h
  split at h
  · injection h with h1 _; exact .inl h1.symm
  · split at h
    · injection h with h1 _; exact .inr h1.symm
    · unfold parseW at h
      split at h
      · exact .inr (tiersR_bad _ _ _ _ _ _ h)
      · injection h with h1 _; exact .inr h1.symm
set_option maxRecDepth 100000 in
set_option maxHeartbeats 4000000 in
theorem read_any (s : ByteArray) (w : World) (hs : s.size ≤ maxLen) (hm : ∃ m : Int, w.cell? ⟨0, 0, none⟩ = some (.int .i64 m)) :
    Calls Tryz.prog 17 #[.string s] w fun e w' => ParseSays (readT s) w.heap.size e w' ∧ Below w.heap.size w w' := by
  have hlt0 : 0 < w.heap.size := by obtain ⟨m, h⟩ := hm; have := block_lt_of_cell h; simpa using this
  have hb0 : Below w.heap.size w (w.alloc (.cells #[.string ByteArray.empty, .slice none 0 0] 24)) := (Below.refl _ w).alloc (Nat.le_refl _) _
  have b0 := Bx.new w 24 #[.string ByteArray.empty, .slice none 0 0]
  have HC := Lib.hid (parse_any s (w.alloc (.cells #[.string ByteArray.empty, .slice none 0 0] 24)) hs (hm.imp fun m h => (hb0.cell (p := ⟨0, 0, none⟩) hlt0).trans h))
  cases hP : parseT s with
  | bad k at_ =>
    have hk := parseT_bad hP
    have HF := Lib.hid (show readT s = .bad k at_ from by unfold readT; rw [hP])
    rw [hP] at HC
    unfold ParseSays at HC
    rw [HF.out]
    unfold ParseSays
    have hk' : (k != 0) = true := bne_iff_ne.2 (by omega)
    clear hk hP HF
    go_enter Tryz.func17, Tryz.ntmps17
    go_wp2_with (first
      | (go_at_call 18; refine HC.out.mono ?_; rintro e w1 ⟨rfl, hb1⟩
         have hba := (Below.refl w1.heap.size w1).alloc (Nat.le_refl _) (.cells #[.string ByteArray.empty, .slice none 0 0] 24)
         have b1 := (b0.below hb1).below hba
         have bp := Bx.new w1 24 #[.string ByteArray.empty, .slice none 0 0]
         have hbw := (hb0.trans (hb1.mono hb0.size)).trans (hba.mono (hb0.trans (hb1.mono hb0.size)).size)
         have q0 := b1.at_ 0 rfl
         have q1 := b1.at_ 1 rfl
         have f0 := b1.free 0
         have f1 := b1.free 1))
    have X := ((b1.set 0 (.string ⟨#[]⟩)).set 1 (.slice none 0 0))
    have x0 : (((w1.alloc (.cells #[.string ByteArray.empty, .slice none 0 0] 24)).setCell ⟨w.heap.size, 0, none⟩ (.string ⟨#[]⟩)).setCell ⟨w.heap.size, 1, none⟩ (.slice none 0 0)).cell? ⟨w.heap.size, 0, none⟩ = some (.string ⟨#[]⟩) := X.at_ 0 rfl
    have x1 : (((w1.alloc (.cells #[.string ByteArray.empty, .slice none 0 0] 24)).setCell ⟨w.heap.size, 0, none⟩ (.string ⟨#[]⟩)).setCell ⟨w.heap.size, 1, none⟩ (.slice none 0 0)).cell? ⟨w.heap.size, 1, none⟩ = some (.slice none 0 0) := X.at_ 1 rfl
    have hfin : Below w.heap.size w (((w1.alloc (.cells #[.string ByteArray.empty, .slice none 0 0] 24)).setCell ⟨w.heap.size, 0, none⟩ (.string ⟨#[]⟩)).setCell ⟨w.heap.size, 1, none⟩ (.slice none 0 0)) := (hbw.setCell (Nat.le_refl _) _).setCell (Nat.le_refl _) _
    clear X
    generalize HW : (((w1.alloc (.cells #[.string ByteArray.empty, .slice none 0 0] 24)).setCell ⟨w.heap.size, 0, none⟩ (.string ⟨#[]⟩)).setCell ⟨w.heap.size, 1, none⟩ (.slice none 0 0)) = W at x0 x1 hfin ⊢
    refine bodyPost_ret (v := .tuple #[polV ⟨#[]⟩ none 0 0, .int .i64 k, .int .i64 at_]) (by simp [results, Tryz.results17, go_sem, x0, x1]) rfl ⟨?_, hfin⟩
    rfl
  | good nm ts =>
    have HR := Lib.hid (show readT s = if (checkR nm ts).1 = 0 then .good nm ts else .bad (checkR nm ts).1 (checkR nm ts).2 from by unfold readT; rw [hP])
    rw [hP] at HC
    unfold ParseSays at HC
    by_cases hz : (checkR nm ts).1 = 0
    · have hck := checkR_zero hz
      have HF := Lib.hid (show readT s = .good nm ts from by rw [HR.out, if_pos hz])
      rw [HF.out]
      unfold ParseSays
      clear HR hP hz HF
      go_enter Tryz.func17, Tryz.ntmps17
      go_wp2_with (first
        | (go_at_call 18; refine HC.out.mono ?_; rintro e w1 ⟨⟨A, c, rfl, hown, hok, hnl, htl⟩, hb1⟩
           have hba := (Below.refl w1.heap.size w1).alloc (Nat.le_refl _) (.cells #[.string ⟨nm.toArray⟩, .slice A ts.length c] 24)
           have b1 := (b0.below hb1).below hba
           have bp := Bx.new w1 24 #[.string ⟨nm.toArray⟩, .slice A ts.length c]
           have hbw := (hb0.trans (hb1.mono hb0.size)).trans (hba.mono (hb0.trans (hb1.mono hb0.size)).size)
           have q0 := b1.at_ 0 rfl
           have q1 := b1.at_ 1 rfl
           have f0 := b1.free 0
           have f1 := b1.free 1
           have hsz : (⟨nm.toArray⟩ : ByteArray).size ≤ maxLen := by rw [← len_toList, toList_mk]; unfold maxLen; omega
           have HOWN := Lib.hid hown
           have HTI := Lib.hid (show Tis w1 A ts.length ts from by obtain ⟨A', c', e, hh⟩ := own_tis hown rfl hok (by unfold maxLen; omega); cases e; exact hh)
           have hac : ts.length ≤ c := by obtain ⟨_, _, e, h, _⟩ := own_slice hown; cases e; exact h
           clear hown)
        | (go_at_call 7; refine (check_any ⟨nm.toArray⟩ A ts.length c ts _ hsz (HTI.out.below hba) hac).mono ?_; rw [toList_mk, hck]; rintro e w2 ⟨rfl, hb2⟩
           have b4 := b1.below hb2
           have bq := bp.below hb2
           have r0 := bq.at_ 0 rfl
           have r1 := bq.at_ 1 rfl
           have q0 := b4.at_ 0 rfl
           have q1 := b4.at_ 1 rfl
           have f0 := b4.free 0
           have f1 := b4.free 1))
      have hown2 : ((w2.setCell ⟨w.heap.size, 0, none⟩ (.string ⟨nm.toArray⟩)).setCell ⟨w.heap.size, 1, none⟩ (.slice A ts.length c)).ownsRow w.heap.size 49 4 (.slice A ts.length c) ts.length (ts.flatMap Ti.cells) := by
        have ho := own_below (own_below HOWN.out hba) hb2
        refine own_low (own_far (own_far ho (fun k hk e => ?_) _) (fun k hk e => ?_) _) (by simp)
        · have := (ho.lt k hk).1; simp at this e; omega
        · have := (ho.lt k hk).1; simp at this e; omega
      have X := ((b4.set 0 (.string ⟨nm.toArray⟩)).set 1 (.slice A ts.length c))
      have x0 : ((w2.setCell ⟨w.heap.size, 0, none⟩ (.string ⟨nm.toArray⟩)).setCell ⟨w.heap.size, 1, none⟩ (.slice A ts.length c)).cell? ⟨w.heap.size, 0, none⟩ = some (.string ⟨nm.toArray⟩) := X.at_ 0 rfl
      have x1 : ((w2.setCell ⟨w.heap.size, 0, none⟩ (.string ⟨nm.toArray⟩)).setCell ⟨w.heap.size, 1, none⟩ (.slice A ts.length c)).cell? ⟨w.heap.size, 1, none⟩ = some (.slice A ts.length c) := X.at_ 1 rfl
      have hfin : Below w.heap.size w ((w2.setCell ⟨w.heap.size, 0, none⟩ (.string ⟨nm.toArray⟩)).setCell ⟨w.heap.size, 1, none⟩ (.slice A ts.length c)) := ((hbw.trans (hb2.mono hbw.size)).setCell (Nat.le_refl _) _).setCell (Nat.le_refl _) _
      clear X
      generalize HW : ((w2.setCell ⟨w.heap.size, 0, none⟩ (.string ⟨nm.toArray⟩)).setCell ⟨w.heap.size, 1, none⟩ (.slice A ts.length c)) = W at x0 x1 hfin ⊢
      refine bodyPost_ret (v := .tuple #[polV ⟨nm.toArray⟩ A ts.length c, .int .i64 0, .int .i64 0]) (by simp [results, Tryz.results17, go_sem, x0, x1]) rfl ⟨?_, hfin⟩
      rw [HW] at hown2
      exact ⟨A, c, rfl, hown2, hok, hnl, htl⟩
    · have HF := Lib.hid (show readT s = .bad (checkR nm ts).1 (checkR nm ts).2 from by rw [HR.out, if_neg hz])
      rw [HF.out]
      unfold ParseSays
      have hz' : ((checkR nm ts).1 != 0) = true := bne_iff_ne.2 hz
      clear HR hP hz HF
      go_enter Tryz.func17, Tryz.ntmps17
      go_wp2_with (first
        | (go_at_call 18; refine HC.out.mono ?_; rintro e w1 ⟨⟨A, c, rfl, hown, hok, hnl, htl⟩, hb1⟩
           have hba := (Below.refl w1.heap.size w1).alloc (Nat.le_refl _) (.cells #[.string ⟨nm.toArray⟩, .slice A ts.length c] 24)
           have b1 := (b0.below hb1).below hba
           have bp := Bx.new w1 24 #[.string ⟨nm.toArray⟩, .slice A ts.length c]
           have hbw := (hb0.trans (hb1.mono hb0.size)).trans (hba.mono (hb0.trans (hb1.mono hb0.size)).size)
           have q0 := b1.at_ 0 rfl
           have q1 := b1.at_ 1 rfl
           have f0 := b1.free 0
           have f1 := b1.free 1
           have hsz : (⟨nm.toArray⟩ : ByteArray).size ≤ maxLen := by rw [← len_toList, toList_mk]; unfold maxLen; omega
           have HOWN := Lib.hid hown
           have HTI := Lib.hid (show Tis w1 A ts.length ts from by obtain ⟨A', c', e, hh⟩ := own_tis hown rfl hok (by unfold maxLen; omega); cases e; exact hh)
           have hac : ts.length ≤ c := by obtain ⟨_, _, e, h, _⟩ := own_slice hown; cases e; exact h
           clear hown)
        | (go_at_call 7; refine (check_any ⟨nm.toArray⟩ A ts.length c ts _ hsz (HTI.out.below hba) hac).mono ?_; rw [toList_mk]; rintro e w2 ⟨rfl, hb2⟩
           have b4 := b1.below hb2
           have q0 := b4.at_ 0 rfl
           have q1 := b4.at_ 1 rfl
           have f0 := b4.free 0
           have f1 := b4.free 1))
      have X := ((b4.set 0 (.string ⟨#[]⟩)).set 1 (.slice none 0 0))
      have x0 : ((w2.setCell ⟨w.heap.size, 0, none⟩ (.string ⟨#[]⟩)).setCell ⟨w.heap.size, 1, none⟩ (.slice none 0 0)).cell? ⟨w.heap.size, 0, none⟩ = some (.string ⟨#[]⟩) := X.at_ 0 rfl
      have x1 : ((w2.setCell ⟨w.heap.size, 0, none⟩ (.string ⟨#[]⟩)).setCell ⟨w.heap.size, 1, none⟩ (.slice none 0 0)).cell? ⟨w.heap.size, 1, none⟩ = some (.slice none 0 0) := X.at_ 1 rfl
      have hfin : Below w.heap.size w ((w2.setCell ⟨w.heap.size, 0, none⟩ (.string ⟨#[]⟩)).setCell ⟨w.heap.size, 1, none⟩ (.slice none 0 0)) := ((hbw.trans (hb2.mono hbw.size)).setCell (Nat.le_refl _) _).setCell (Nat.le_refl _) _
      clear X
      generalize HW : ((w2.setCell ⟨w.heap.size, 0, none⟩ (.string ⟨#[]⟩)).setCell ⟨w.heap.size, 1, none⟩ (.slice none 0 0)) = W at x0 x1 hfin ⊢
      refine bodyPost_ret (v := .tuple #[polV ⟨#[]⟩ none 0 0, .int .i64 (checkR nm ts).1, .int .i64 (checkR nm ts).2]) (by simp [results, Tryz.results17, go_sem, x0, x1]) rfl ⟨?_, hfin⟩
      rfl
end Go.Proofs.YtnnamhomapagiaaGreatDoor
