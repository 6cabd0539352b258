/-
  One list more; a block that is none of the book's stays. (gen_bookq.py prints this from the text of the one list more.)
-/
import Derived.Test.YtcglbbabfkbcbadGreatM10
namespace Go.Proofs.YtcglbbabfkbcbadGreat
open Go.RowKit Go.Deep

set_option maxRecDepth 100000 in
set_option maxHeartbeats 4000000 in
theorem addIntsQ_any (qb : Nat) (g B : Nat) (fs : Array Value) (ls : List (List Int)) (v : Value) (l : List Int) (w0 w : World) (h0 : BkInts w0 B fs ls) (hb0 : Below w0.heap.size w0 w) (hB : Bx w g 44 fs) (hl : w.ownsRow w0.heap.size 3 1 v l.length (l.flatMap encInts)) (hok : ∀ t ∈ l, (Lit.int .i64 t).wf = true) (hn : ls.length < 250) (hfew : l.length ≤ 100000) (hBw : B ≤ w0.heap.size) (hq : qb < w.heap.size) (hqg : qb ≠ g) (hqX : ∀ u, fs[2]? = some u → u.ownBlock ≠ some qb) (hqW : ∀ u, fs[3]? = some u → u.ownBlock ≠ some qb) :
    Calls Tryz.prog 13 #[.pointer (some ⟨g, 0, none⟩), v] w fun e w' => e = .returned (.tuple #[]) ∧ (∃ fs', Bx w' g 44 fs' ∧ BkInts w' B fs' (ls ++ [l]) ∧ (∀ i, i ≠ 2 → i ≠ 3 → fs'[i]? = fs[i]?) ∧ (∀ u, fs'[2]? = some u → u.ownBlock ≠ some qb) ∧ (∀ u, fs'[3]? = some u → u.ownBlock ≠ some qb)) ∧ Stands B g 25 w w' ∧ w'.heap[qb]? = w.heap[qb]? := by
  obtain ⟨i1, hi1, hy0, hy1, hy2⟩ := info_parts infoLInts
  have HJ := Lib.hid hi1
  have HJ0 := Lib.hid hy0
  have HJ1 := Lib.hid hy1
  have HJ2 := Lib.hid hy2
  clear hi1 hy0 hy1 hy2
  obtain ⟨vX, vs, vW, ws, e1, e2, r1, r2, hap, k1, k2⟩ := h0.ex
  have HBOK := Lib.hid h0.ok
  obtain ⟨A1, c1, rfl, _⟩ := bk_sl r1
  obtain ⟨A2, c2, rfl, _⟩ := bk_sl r2
  obtain ⟨A, c, rfl, hsl⟩ := bk_sl hl
  have HLO := Lib.hid (fun b (hb : (Value.slice A l.length c).ownBlock = some b) => (hl.lt b hb).1)
  have HLT := Lib.hid (And.intro k1.lt k2.lt)
  have HR1 := Lib.hid (bk_below r1 hb0)
  have HR2 := Lib.hid (bk_below r2 hb0)
  have HK1 := Lib.hid (k1.below hb0)
  have HK2 := Lib.hid (k2.below hb0)
  have hsz0 := hb0.size
  have HBX := Lib.hid hB
  have x0 := hB.at_ 2 e1
  obtain ⟨n, hn0⟩ : ∃ n, n = ls.length := ⟨_, rfl⟩
  obtain ⟨m, hm0⟩ : ∃ m, m = l.length := ⟨_, rfl⟩
  rw [← hn0] at e1 e2 HR1 HR2 hap hn x0
  rw [← hm0] at hl HLO hfew ⊢
  have HN := Lib.hid hn0
  have HM := Lib.hid hm0
  have HL := Lib.hid hl
  have HOK := Lib.hid hok
  have HE1 := Lib.hid e1
  have HQX := Lib.hid (hqX _ e1)
  have HQW := Lib.hid (hqW _ e2)
  clear hqX hqW
  have HE2 := Lib.hid e2
  have HAP := Lib.hid hap
  clear hn0 hm0 r1 r2 k1 k2 h0 hl hok hB hap
  have g1 : decide ((n : Int) < 250) = true := decide_eq_true (by omega)
  have hba := (Below.refl w.heap.size w).alloc (Nat.le_refl _) (.cells #[.slice A m c] 25)
  have R1a := Lib.hid (bk_below HR1.out hba)
  have HSL := Lib.hid (Sl.new w 25 w.heap.size [.slice A m c] #[.slice A m c] rfl rfl)
  have HON := Lib.hid (show ∀ x ∈ [Value.slice A m c], x.oneCell' = true from fun x hx => by rw [List.mem_singleton.1 hx]; rfl)
  have BXa := Lib.hid (HBX.out.below hba)
  have HBA := Lib.hid hba
  clear hsl hba e1 e2
  go_enter Tryz.func13, Tryz.ntmps13
  go_upto_region 2 with (at_builtin; refine wpList_append_sl _ rfl _ _ 36 rfl B 25 i1 _ 1 24 Tryz.underlying36 HJ.out HJ0.out HJ1.out HJ2.out rfl (by decide) (.slice A1 n c1) n vs rfl R1a.out (some ⟨w.heap.size, 0, none⟩) 1 1 [.slice A m c] rfl rfl HSL.out HON.out ?c4 ?c5 ?c6 ?_; (unfold maxLen; omega); (omega); (simp; omega); intro v2 w2 hown2 hg2 hat2; obtain ⟨AV, cV, eV, _⟩ := bk_sl hown2; subst eV; have BX2 := Lib.hid (BXa.out.grown hg2 (BXa.out.not_row R1a.out (by decide))); have y0 := BX2.out.at_ 2 HE1.out; have y1 := BX2.out.free 2)
  have bx3 := BX2.out.set 2 (.slice AV (n + 1) cV)
  have hg3 := bk_grown_set w2 g 2 (.slice AV (n + 1) cV)
  have S3 : Stands B g 25 w (w2.setCell ⟨g, 2, none⟩ (.slice AV (n + 1) cV)) := ((Stands.of_below HBA.out).trans (Stands.row hg2 R1a.out)).trans (Stands.set _ _ _)
  have q1X := HQX.out
  have hq2 : (w2.setCell ⟨g, 2, none⟩ (.slice AV (n + 1) cV)).heap[qb]? = w.heap[qb]? := (hg3.block qb (Nat.lt_of_lt_of_le (Nat.lt_of_lt_of_le hq HBA.out.size) hg2.size) (fun h => hqg (Option.some.inj h))).trans ((hg2.block qb (Nat.lt_of_lt_of_le hq HBA.out.size) (fun h => q1X h.symm)).trans (HBA.out.block qb hq))
  have HQV := Lib.hid (show (Value.slice AV (n + 1) cV).ownBlock ≠ some qb from fun h => by
    rcases hat2 with h2 | h2
    · exact q1X (h2.symm.trans h)
    · have := Option.some.inj (h2.symm.trans h); simp at this; omega)
  have HQ2 := Lib.hid hq2
  have R2b := (bk_below HR2.out HBA.out).kept hg2 (bk_other HAP.out)
  have HAT2 := Lib.hid hat2
  have hs2 := hg2.size
  have hs3 := hg3.size
  have hsw : (w.alloc (.cells #[.slice A m c] 25)).heap.size = w.heap.size + 1 := by simp
  have R2 := Lib.hid (R2b.kept hg3 (.inr (fun e => BX2.out.not_row R2b (by decide) e.symm)))
  have R1 := Lib.hid (hown2.kept hg3 (.inr (fun e => BX2.out.not_row hown2 (by decide) e.symm)))
  have kk : ∀ {v : Value} {xs : List Value} {q C : Nat}, w.ownsRow C 3 1 v q xs → (w2.setCell ⟨g, 2, none⟩ (.slice AV (n + 1) cV)).ownsRow C 3 1 v q xs := fun h1 => by
    have h2 := (bk_below h1 HBA.out).kept hg2 (bk_apart (bk_below h1 HBA.out) R1a.out (by decide))
    exact h2.kept hg3 (.inr (fun e => BX2.out.not_row h2 (by decide) e.symm))
  have K1 := Lib.hid (HK1.out.of_own (w' := w2.setCell ⟨g, 2, none⟩ (.slice AV (n + 1) cV)) fun _ _ _ _ _ h => kk h)
  have K2 := Lib.hid (HK2.out.of_own (w' := w2.setCell ⟨g, 2, none⟩ (.slice AV (n + 1) cV)) fun _ _ _ _ _ h => kk h)
  have L3 := Lib.hid (kk HL.out)
  have HLV2 := Lib.hid (fun q (hq : (Value.slice AV (n + 1) cV).ownBlock = some q) => (hown2.lt q hq).2)
  have HRL := Lib.hid (fun q (hq : (Value.slice A2 n c2).ownBlock = some q) => (HR2.out.lt q hq).2)
  clear kk R2b hat2 hown2 hg2 y0 y1 x0
  obtain ⟨w3, hw3⟩ : ∃ w3, w3 = w2.setCell ⟨g, 2, none⟩ (.slice AV (n + 1) cV) := ⟨_, rfl⟩
  rw [← hw3] at bx3 hg3 S3 hs3 R2 R1 K1 K2 L3 HQ2 ⊢
  have hq3 : qb < w3.heap.size := by rw [hw3]; exact Nat.lt_of_lt_of_le (Nat.lt_of_lt_of_le (Nat.lt_of_lt_of_le hq (by omega : w.heap.size ≤ w.heap.size + 1)) (by rw [← hsw]; exact hs2)) (by simp)
  have HBX3 := Lib.hid bx3
  have HS3 := Lib.hid S3
  obtain ⟨A', c', e', hsl⟩ := bk_sl L3.out
  cases e'
  have hbD := (Below.refl w3.heap.size w3).drew
  have HC := Lib.hid (copyInts_any A m c l w3.drew (hsl.below hbD) HM.out.symm (by omega))
  have HE3 := Lib.hid (show (fs.setIfInBounds 2 (.slice AV (n + 1) cV))[3]? = some (.slice A2 n c2) from by rw [Array.getElem?_setIfInBounds_ne (by decide)]; exact HE2.out)
  have d0 := (HBX3.out.below hbD).at_ 3 HE3.out
  have HBD := Lib.hid hbD
  have hss : w3.drew.heap.size = w3.heap.size := by simp
  clear S3 bx3 hg3 hsl hbD hw3
  go_region_law (first
      | (refine step_append_sl _ (by rfl) _ _ 36 (by rfl) B 25 i1 _ 1 24 Tryz.underlying36 HJ.out HJ0.out HJ1.out HJ2.out rfl (by decide) (.slice A2 n c2) n ws (by rfl) R4.out (some ⟨w4.heap.size, 0, none⟩) 1 1 [.slice AC m cC] (by rfl) rfl HSC.out HOC.out (by unfold maxLen; omega) (by omega) HZC.out ?_
         intro v5 w5 hown5 hg5 hat5
         obtain ⟨AY, cY, eY, _⟩ := bk_sl hown5
         subst eY
         have BX5 := Lib.hid (BX4.out.grown hg5 (BX4.out.not_row R4.out (by decide)))
         have d5 := BX5.out.at_ 3 HE3.out
         have f5 := BX5.out.free 3)
      | (go_simp
         go_at_call 30
         refine HC.out.mono ?_
         rintro e w4 ⟨vC, rfl, hoC, hbC⟩
         obtain ⟨AC, cC, rfl, _⟩ := bk_sl hoC
         have hbC3 : Below w3.heap.size w3 w4 := HBD.out.trans (hbC.mono (by simp))
         have ha4 := (Below.refl w4.heap.size w4).alloc (Nat.le_refl _) (.cells #[.slice AC m cC] 25)
         have h34 : Below w3.heap.size w3 (w4.alloc (.cells #[.slice AC m cC] 25)) := hbC3.trans (ha4.mono hbC3.size)
         have H34 := Lib.hid h34
         have BX4 := Lib.hid (HBX3.out.below h34)
         have R4 := Lib.hid (bk_below R2.out h34)
         have HSC := Lib.hid (Sl.new w4 25 w4.heap.size [.slice AC m cC] #[.slice AC m cC] rfl rfl)
         have HOC := Lib.hid (show ∀ x ∈ [Value.slice AC m cC], x.oneCell' = true from fun x hx => by rw [List.mem_singleton.1 hx]; rfl)
         have HZC := Lib.hid (show B ≤ (w4.alloc (.cells #[.slice AC m cC] 25)).heap.size from by have := h34.size; omega)
         have d4 := (HBX3.out.below hbC3).at_ 3 HE3.out
         have d4a := BX4.out.at_ 3 HE3.out
         have HOWC := Lib.hid (bk_below hoC ha4)
         clear h34 hoC))
  all_goals
    have bx6 := BX5.out.set 3 (.slice AY (n + 1) cY)
    have hg6 := bk_grown_set w5 g 3 (.slice AY (n + 1) cY)
    have S6 : Stands B g 25 w (w5.setCell ⟨g, 3, none⟩ (.slice AY (n + 1) cY)) := (HS3.out.trans ((Stands.of_below H34.out).trans (Stands.row hg5 R4.out))).trans (Stands.set _ _ _)
    have hq6 : (w5.setCell ⟨g, 3, none⟩ (.slice AY (n + 1) cY)).heap[qb]? = w.heap[qb]? := (hg6.block qb (Nat.lt_of_lt_of_le (Nat.lt_of_lt_of_le hq3 H34.out.size) hg5.size) (fun h => hqg (Option.some.inj h))).trans ((hg5.block qb (Nat.lt_of_lt_of_le hq3 H34.out.size) (fun h => HQW.out h.symm)).trans ((H34.out.block qb hq3).trans HQ2.out))
    have hqY : (Value.slice AY (n + 1) cY).ownBlock ≠ some qb := fun h => by
      rcases hat5 with h2 | h2
      · exact HQW.out (h2.symm.trans h)
      · have h3 := Option.some.inj (h2.symm.trans h)
        have h4 := H34.out.size
        omega
    have hz34 := H34.out.size
    have kk : ∀ {T' : TypeId} {v : Value} {xs : List Value} {q C k' : Nat}, T' ≠ 44 → (v.ownBlock = none ∨ v.ownBlock ≠ (Value.slice A2 n c2).ownBlock) → (w4.alloc (.cells #[.slice AC m cC] 25)).ownsRow C T' k' v q xs → (w5.setCell ⟨g, 3, none⟩ (.slice AY (n + 1) cY)).ownsRow C T' k' v q xs := fun hT h0 h1 => by
      have h2 := h1.kept hg5 h0
      exact h2.kept hg6 (.inr (fun e => BX5.out.not_row h2 (Ne.symm hT) e.symm))
    have hX := kk (by decide) (bk_two HAP.out HAT2.out (.inl rfl) (fun q hq => by have := HRL.out q hq; omega) HLV2.out) (bk_below R1.out H34.out)
    have hW := hown5.kept hg6 (.inr (fun e => BX5.out.not_row hown5 (by decide) e.symm))
    have hK1 := (K1.out.below H34.out).of_own (w' := w5.setCell ⟨g, 3, none⟩ (.slice AY (n + 1) cY)) fun _ _ _ _ _ h => kk (by decide) (bk_apart h R4.out (by decide)) h
    have hK2 := (K2.out.below H34.out).of_own (w' := w5.setCell ⟨g, 3, none⟩ (.slice AY (n + 1) cY)) fun _ _ _ _ _ h => kk (by decide) (bk_apart h R4.out (by decide)) h
    have hL := kk (by decide) (bk_apart (bk_below L3.out H34.out) R4.out (by decide)) (bk_below L3.out H34.out)
    have hC := kk (by decide) (bk_apart HOWC.out R4.out (by decide)) HOWC.out
    have e3 : n + 1 = (ls ++ [l]).length := by rw [List.length_append, ← HN.out]; rfl
    have hbk : BkInts (w5.setCell ⟨g, 3, none⟩ (.slice AY (n + 1) cY)) B ((fs.setIfInBounds 2 (.slice AV (n + 1) cV)).setIfInBounds 3 (.slice AY (n + 1) cY)) (ls ++ [l]) := by
      have q1 := (Array.getElem?_eq_some_iff.1 HE1.out).1
      have q2 := (Array.getElem?_eq_some_iff.1 HE2.out).1
      refine ⟨⟨(.slice AV (n + 1) cV), vs ++ [.slice A m c], (.slice AY (n + 1) cY), ws ++ [.slice AC m cC], ?_, ?_, e3 ▸ hX, e3 ▸ hW, ?_, ?_, ?_⟩, ?_⟩
      · rw [Array.getElem?_setIfInBounds_ne (by decide), Array.getElem?_setIfInBounds_self_of_lt (by omega)]
      · rw [Array.getElem?_setIfInBounds_self_of_lt (by simp; omega)]
      · exact bk_two HAP.out HAT2.out hat5 (fun q hq => by have := HRL.out q hq; omega) (fun q hq => by have := HLV2.out q hq; omega)
      · exact hK1.push (by rw [← HM.out]; exact bk_low hL hBw) (by rw [← HM.out]; exact hfew) fun i u hu => bk_fresh (fun q hq => HLT.out.1 i u hu q hq) (fun q hq => HLO.out q hq)
      · exact hK2.push (by rw [← HM.out]; exact bk_low hC (by omega)) (by rw [← HM.out]; exact hfew) fun i u hu => bk_fresh (fun q hq => HLT.out.2 i u hu q hq) (fun q hq => by have := (hC.lt q hq).1; omega)
      · intro x hx
        rcases List.mem_append.1 hx with hx | hx
        · exact HBOK.out x hx
        · rw [List.mem_singleton.1 hx]; exact HOK.out
    clear hX hW hK1 hK2 hL hC kk
    go_wp2
    go_end0
    have z1 := (Array.getElem?_eq_some_iff.1 HE1.out).1
    have z2 := (Array.getElem?_eq_some_iff.1 HE2.out).1
    exact ⟨rfl, ⟨_, bx6, hbk, fun i h1 h2 => by rw [Array.getElem?_setIfInBounds_ne (Ne.symm h2), Array.getElem?_setIfInBounds_ne (Ne.symm h1)], fun u hu => by
      rw [Array.getElem?_setIfInBounds_ne (by decide), Array.getElem?_setIfInBounds_self_of_lt (by omega)] at hu
      cases hu; exact HQV.out, fun u hu => by
      rw [Array.getElem?_setIfInBounds_self_of_lt (by simp; omega)] at hu
      cases hu; exact hqY⟩, S6, hq6⟩

end Go.Proofs.YtcglbbabfkbcbadGreat
