/-
  Start, Cover, Of.
-/
import Derived.Test.YtcglbbabfkbcbadGreatM8
namespace Go.Proofs.YtcglbbabfkbcbadGreat
open Go.ChangeShapes Go.WideShapes Go.ChangeAt Go.RowKit Go.Deep

theorem isB_some {n : Nat} {i : Int} (h : isB n i = true) : ∃ k : Nat, i = k ∧ k < n := by
  unfold isB at h
  rw [decide_eq_true_iff] at h
  exact ⟨i.toNat, by omega, by omega⟩
theorem from_any (A : Option Addr) (n c : Nat) (B : Option Addr) (m d : Nat) (r : Rch) (i : Int) (w : World) (h : RchAt w A n B m r) (hn : n ≤ 1000000) :
    Calls Tryz.prog 88 #[rchV r.now r.nm A n c B m d, .int .i64 i] w fun e w' => e = .returned (.int .i64 (r.fromI i)) ∧ Below w.heap.size w w' := by
  cases hi : isB n i
  · have e : r.fromI i = 0 := by unfold Rch.fromI; rw [h.ts.len, hi]; rfl
    rw [e]
    exact from_out A n c B m d r i w hi
  · obtain ⟨k, rfl, hk⟩ := isB_some hi
    have e : r.fromI (k : Int) = r.from_ k := by unfold Rch.fromI; rw [h.ts.len, hi, if_pos rfl, Int.toNat_natCast]
    rw [e]
    exact from_in A n c B m d r k w h hn hk
set_option maxRecDepth 100000 in
set_option maxHeartbeats 4000000 in
theorem start_any (A : Option Addr) (n c : Nat) (B : Option Addr) (m d : Nat) (r : Rch) (i t : Int) (w : World) (h : RchAt w A n B m r) (hn : n ≤ 1000000) (ht : -9223372036854775808 ≤ t ∧ t ≤ 9223372036854775807) :
    Calls Tryz.prog 74 #[rchV r.now r.nm A n c B m d, .int .i64 i, .int .i64 t] w fun e w' => e = .returned (.tuple #[.int .i64 (r.start i t), .bool (r.has i t)]) ∧ Below w.heap.size w w' := by
  have hb0 : Below w.heap.size w (w.alloc (.cells #[.int .i64 r.now, .string r.nm, .slice A n c, .slice B m d] 46)) := (Below.refl _ w).alloc (Nat.le_refl _) _
  have b0 := Bx.new w 46 #[.int .i64 r.now, .string r.nm, .slice A n c, .slice B m d]
  cases hi : isB n i
  · have HI := Lib.hid hi
    have HF := Lib.hid (show r.start i t = 0 ∧ r.has i t = false from by unfold Rch.start Rch.has; rw [h.ts.len, hi]; simp)
    clear hi h b0
    go_enter Tryz.func74, Tryz.ntmps74
    go_wp2_with fail
    refine (isR_any _ _ _ _ _ _ _ _ i _).mono ?_
    rw [HI.out]
    rintro e w1 ⟨rfl, hb⟩
    go_wp2
    go_ret2
    exact ⟨by rw [HF.out.1, HF.out.2]; rfl, hb0.trans (hb.mono hb0.size)⟩
  · obtain ⟨k, rfl, hk⟩ := isB_some hi
    have HI := Lib.hid hi
    by_cases h0 : 0 ≤ t
    · have K : k < r.ts.length := by rw [h.ts.len]; exact hk
      have hlen := h.ts.len
      have HS := Lib.hid (show r.start (k : Int) t = flrE t (r.ts[k]'K).ev from by
        unfold Rch.start; rw [hlen, hi, if_pos ⟨rfl, h0⟩, Int.toNat_natCast, List.getElem?_eq_getElem K]; rfl)
      have HH := Lib.hid (show r.has (k : Int) t = decide (r.from_ k ≤ r.start (k : Int) t) from by
        unfold Rch.has Rch.fromI; rw [hlen, hi, if_pos rfl, Int.toNat_natCast]; simp [h0])
      have hd : decide (t < 0) = false := decide_eq_false (by omega)
      have HFR := Lib.hid (fun W (hW : RchAt W A n B m r) => from_in A n c B m d r k W hW hn hk)
      have HTS := Lib.hid h
      have hev := (h.ts.ok _ (List.getElem_mem K)).ev
      clear hi h
      go_enter Tryz.func74, Tryz.ntmps74
      go_wp2_with fail
      refine (isR_any _ _ _ _ _ _ _ _ (k : Int) _).mono ?_
      rw [HI.out]
      rintro e w1 ⟨rfl, hb⟩
      have p := b0.below hb
      have hb1 := hb0.trans (hb.mono hb0.size)
      have q0 := p.at_ 0 rfl
      have q1 := p.at_ 1 rfl
      have q2 := p.at_ 2 rfl
      have q3 := p.at_ 3 rfl
      obtain ⟨b, off, rfl, hbl, X⟩ := (HTS.out.ts.below hb1).get K
      have x1 := X.c1
      have HT1 := Lib.hid (HTS.out.below hb1)
      clear hb hb0 b0 X p
      generalize (r.ts[k]'K) = x at *
      have g0 : (0 : Int) ≤ (k : Int) := by omega
      have g1 : (k : Int) < (n : Int) := by omega
      obtain ⟨z, hz⟩ : ∃ z, flrE t x.ev = z := ⟨_, rfl⟩
      have HF := fun W => floorE_any t x.ev W ⟨h0, ht.2⟩ hev
      rw [hz] at HF HS
      have HZ := Lib.hid hz
      clear hz
      go_wp2_with fail
      refine (HF _).mono ?_
      rintro e w2 ⟨rfl, rfl⟩
      go_wp2_with fail
      refine (HFR.out _ HT1.out).mono ?_
      rintro e w3 ⟨rfl, hb3⟩
      go_wp2
      go_ret2
      exact ⟨by rw [HH.out, HS.out]; rfl, hb1.trans (hb3.mono hb1.size)⟩
    · have HF := Lib.hid (show r.start (k : Int) t = 0 ∧ r.has (k : Int) t = false from by unfold Rch.start Rch.has; rw [if_neg (fun e => h0 e.2), decide_eq_false h0]; simp)
      have hneg : t < 0 := by omega
      clear hi h b0
      go_enter Tryz.func74, Tryz.ntmps74
      go_wp2_with fail
      refine (isR_any _ _ _ _ _ _ _ _ (k : Int) _).mono ?_
      rw [HI.out]
      rintro e w1 ⟨rfl, hb⟩
      go_wp2
      go_ret2
      exact ⟨by rw [HF.out.1, HF.out.2]; rfl, hb0.trans (hb.mono hb0.size)⟩
/-- The tier that a query from a time on is answered by. -/
def Rch.cover (r : Rch) (f : Int) : Int := match (List.range r.ts.length).find? (fun i => decide (r.from_ i ≤ f)) with | some i => i | none => r.ts.length - 1
theorem cover_at {r : Rch} {f : Int} {j : Nat} (hj : j < r.ts.length) (h : r.from_ j ≤ f) (ha : ∀ i, i < j → ¬ r.from_ i ≤ f) : r.cover f = j := by
  have e : (List.range r.ts.length).find? (fun i => decide (r.from_ i ≤ f)) = some j := by
    rw [List.find?_range_eq_some]
    exact ⟨decide_eq_true h, List.mem_range.2 hj, fun i hi => by simpa using ha i hi⟩
  unfold Rch.cover
  rw [e]
theorem cover_no {r : Rch} {f : Int} (ha : ∀ i, i < r.ts.length → ¬ r.from_ i ≤ f) : r.cover f = r.ts.length - 1 := by
  have e : (List.range r.ts.length).find? (fun i => decide (r.from_ i ≤ f)) = none := by
    rw [List.find?_eq_none]
    intro i hi
    simpa using ha i (List.mem_range.1 hi)
  unfold Rch.cover
  rw [e]
set_option maxRecDepth 100000 in
set_option maxHeartbeats 4000000 in
theorem cover_any (A : Option Addr) (n c : Nat) (B : Option Addr) (m d : Nat) (r : Rch) (f : Int) (w : World) (h : RchAt w A n B m r) (hn : n ≤ 1000000) :
    Calls Tryz.prog 36 #[rchV r.now r.nm A n c B m d, .int .i64 f] w fun e w' => e = .returned (.int .i64 (r.cover f)) ∧ Below w.heap.size w w' := by
  have hb0 : Below w.heap.size w (w.alloc (.cells #[.int .i64 r.now, .string r.nm, .slice A n c, .slice B m d] 46)) := (Below.refl _ w).alloc (Nat.le_refl _) _
  have b0 := Bx.new w 46 #[.int .i64 r.now, .string r.nm, .slice A n c, .slice B m d]
  have HL := Lib.hid h.ts.len
  have HT := Lib.hid h
  clear h
  go_enter Tryz.func36, Tryz.ntmps36
  go_wp2_with fail
  go_loopw [5, 10] (fun _ i wr => ∃ j : Nat, j ≤ n ∧ i = .int .i64 j ∧ Hid (∀ i, i < j → f < r.from_ i) ∧ Bx wr w.heap.size 46 #[.int .i64 r.now, .string r.nm, .slice A n c, .slice B m d] ∧ Below w.heap.size w wr) (fun _ i _ => n - (intOf i).toNat)
  case atStart => exact ⟨0, Nat.zero_le _, rfl, Lib.hid (fun i hi => absurd hi (by omega)), b0, hb0⟩
  case round =>
    clear b0 hb0
    obtain ⟨j, hj, rfl, HA, p, hbr⟩ := hrel
    have q0 := p.at_ 0 rfl
    have q1 := p.at_ 1 rfl
    have q2 := p.at_ 2 rfl
    have q3 := p.at_ 3 rfl
    by_cases hlt : j < n
    · have HFR := Lib.hid (from_in A n c B m d r j wr (HT.out.below hbr) hn hlt)
      obtain ⟨z, hz⟩ : ∃ z, r.from_ j = z := ⟨_, rfl⟩
      rw [hz] at HFR
      by_cases hc : z ≤ f
      · have HC := Lib.hid (cover_at (r := r) (f := f) (j := j) (by rw [HL.out]; exact hlt) (by rw [hz]; exact hc) (fun i hi => by have := HA.out i hi; omega))
        clear hz
        go_wp2_with fail
        refine HFR.out.mono ?_
        rintro e w2 ⟨rfl, hb2⟩
        go_wp2
        go_ret
        exact ⟨ret_int HC.out.symm, hbr.trans (hb2.mono hbr.size)⟩
      · have HN := Lib.hid (show ∀ i, i < j + 1 → f < r.from_ i from fun i hi => by
          by_cases e : i = j
          · subst e; omega
          · exact HA.out i (by omega))
        have hd : decide (z ≤ f) = false := decide_eq_false hc
        clear hz
        go_wp2_with fail
        refine HFR.out.mono ?_
        rintro e w2 ⟨rfl, hb2⟩
        go_wp2_with fail
        go_roundw
        case rel => exact ⟨j + 1, by omega, by go_num, HN, p.below hb2, hbr.trans (hb2.mono hbr.size)⟩
        case measure => simp [intOf]; omega
    · have hje : j = n := by omega
      subst hje
      have HC := Lib.hid (show r.cover f = (j : Int) - 1 from by rw [cover_no (r := r) (f := f) (by rw [HL.out]; intro i hi; have := HA.out i hi; omega), HL.out])
      go_wp2
      go_ret
      exact ⟨ret_int HC.out.symm, hbr⟩
set_option maxRecDepth 100000 in
set_option maxHeartbeats 4000000 in
theorem reachOf_any (now : Int) (nm : ByteArray) (A : Option Addr) (n c : Nat) (ts : List Ti) (B : Option Addr) (m d : Nat) (fs : List Int) (w : World) (hA : Tis w A n ts) (hB : Ints w .i64 B m fs) (hn : n ≤ 1000000) (hm : m ≤ 1000000) (hnow : -9223372036854775808 ≤ now ∧ now ≤ 9223372036854775807) :
    Calls Tryz.prog 7 #[polV nm A n c, .int .i64 now, .slice B m d] w fun e w' => ∃ A' c' B' d', e = .returned (rchV now nm A' n c' B' m d') ∧ RchAt w' A' n B' m ⟨now, nm, ts, fs⟩ ∧ w'.ownsRow w.heap.size 31 4 (.slice A' n c') n (ts.flatMap Ti.cells) ∧ w'.ownsRow w.heap.size 3 1 (.slice B' m d') m (fs.map (Value.int .i64)) ∧ Below w.heap.size w w' := by
  have b1 := Bx.new (w.alloc (.cells #[.string nm, .slice A n c] 24)) 46 #[.int .i64 0, .string ByteArray.empty, .slice none 0 0, .slice none 0 0]
  rw [show (w.alloc (.cells #[.string nm, .slice A n c] 24)).heap.size = w.heap.size + 1 from by simp] at b1
  have hb : Below w.heap.size w ((w.alloc (.cells #[.string nm, .slice A n c] 24)).alloc (.cells #[.int .i64 0, .string ByteArray.empty, .slice none 0 0, .slice none 0 0] 46)) := ((Below.refl _ _).alloc (Nat.le_refl _) _).alloc (by simp) _
  have hsz : ((w.alloc (.cells #[.string nm, .slice A n c] 24)).alloc (.cells #[.int .i64 0, .string ByteArray.empty, .slice none 0 0, .slice none 0 0] 46)).heap.size = w.heap.size + 2 := by simp
  have HSZ := Lib.hid hsz
  have HC := Lib.hid (copyP_any nm A n c ts _ (hA.below hb) hn)
  have HOT := Lib.hid hA
  have HOB := Lib.hid hB
  clear hsz hA hB
  go_enter Tryz.func7, Tryz.ntmps7
  go_wp2_with fail
  refine HC.out.mono ?_
  rintro e w2 ⟨A', c', rfl, hrow, hb2⟩
  rw [HSZ.out] at hrow
  have p1 := b1.below hb2
  have hbw := hb.trans (hb2.mono hb.size)
  have HCI := Lib.hid (cloneI_any B m d fs w2 (HOB.out.below hbw) hm)
  have hs2 := hb2.size
  rw [HSZ.out] at hs2
  have HR := Lib.hid hrow
  clear HC b1 hb hb2 hrow
  go_wp2_with fail
  refine HCI.out.mono ?_
  rintro e w3 ⟨v, rfl, hrow3, hb3⟩
  have p := p1.below hb3
  have HR2 := Lib.hid (HR.out.kept (row := none) ⟨hb3.os, hb3.tape, hb3.output, hb3.size, fun i hi _ => hb3.block i hi⟩ (by cases (Value.slice A' n c').ownBlock <;> simp))
  have hbw3 := hbw.trans (hb3.mono hbw.size)
  obtain ⟨B', d', rfl, HI⟩ := own_ints hrow3 HOB.out.len HOB.out.wf (by unfold maxLen; omega)
  have HR3 := Lib.hid hrow3
  have HII := Lib.hid HI
  have f0 := p.free 0
  have f1 := p.free 1
  have f2 := p.free 2
  have f3 := p.free 3
  have r0 := p.at_ 0 rfl
  have r1 := p.at_ 1 rfl
  have r2 := p.at_ 2 rfl
  have r3 := p.at_ 3 rfl
  clear p1 hb3 hrow3 HI HCI HR hbw
  go_wp2
  have X := (((p.set 0 (.int .i64 now)).set 1 (.string nm)).set 2 (.slice A' n c')).set 3 (.slice B' m d')
  have x0 := X.at_ 0 rfl
  have x1 := X.at_ 1 rfl
  have x2 := X.at_ 2 rfl
  have x3 := X.at_ 3 rfl
  have hfin : Below w.heap.size w ((((w3.setCell ⟨w.heap.size + 1, 0, none⟩ (.int .i64 now)).setCell ⟨w.heap.size + 1, 1, none⟩ (.string nm)).setCell ⟨w.heap.size + 1, 2, none⟩ (.slice A' n c')).setCell ⟨w.heap.size + 1, 3, none⟩ (.slice B' m d')) := (((hbw3.setCell (by simp) _).setCell (by simp) _).setCell (by simp) _).setCell (by simp) _
  have ra : ((((w3.setCell ⟨w.heap.size + 1, 0, none⟩ (.int .i64 now)).setCell ⟨w.heap.size + 1, 1, none⟩ (.string nm)).setCell ⟨w.heap.size + 1, 2, none⟩ (.slice A' n c')).setCell ⟨w.heap.size + 1, 3, none⟩ (.slice B' m d')).ownsRow w.heap.size 31 4 (.slice A' n c') n (ts.flatMap Ti.cells) := by
    have hne : ∀ g, (Value.slice A' n c').ownBlock = some g → g ≠ w.heap.size + 1 := fun g hg e => by have := (HR2.out.lt g hg).1; omega
    exact own_low (own_far (own_far (own_far (own_far HR2.out (fun g hg => hne g hg) _) (fun g hg => hne g hg) _) (fun g hg => hne g hg) _) (fun g hg => hne g hg) _) (by omega)
  have rb : ((((w3.setCell ⟨w.heap.size + 1, 0, none⟩ (.int .i64 now)).setCell ⟨w.heap.size + 1, 1, none⟩ (.string nm)).setCell ⟨w.heap.size + 1, 2, none⟩ (.slice A' n c')).setCell ⟨w.heap.size + 1, 3, none⟩ (.slice B' m d')).ownsRow w.heap.size 3 1 (.slice B' m d') m (fs.map (Value.int .i64)) := by
    have hne : ∀ g, (Value.slice B' m d').ownBlock = some g → g ≠ w.heap.size + 1 := fun g hg e => by have := (HR3.out.lt g hg).1; omega
    exact own_low (own_far (own_far (own_far (own_far HR3.out (fun g hg => hne g hg) _) (fun g hg => hne g hg) _) (fun g hg => hne g hg) _) (fun g hg => hne g hg) _) (by omega)
  generalize ((((w3.setCell ⟨w.heap.size + 1, 0, none⟩ (.int .i64 now)).setCell ⟨w.heap.size + 1, 1, none⟩ (.string nm)).setCell ⟨w.heap.size + 1, 2, none⟩ (.slice A' n c')).setCell ⟨w.heap.size + 1, 3, none⟩ (.slice B' m d')) = W at x0 x1 x2 x3 hfin ra rb ⊢
  refine bodyPost_ret (v := rchV now nm A' n c' B' m d') (by simp [results, Tryz.results7, go_sem, x0, x1, x2, x3]) rfl ⟨A', c', B', d', rfl, ⟨?_, ?_, hnow⟩, ra, rb, hfin⟩
  · obtain ⟨A2, c2, e, h2⟩ := own_tis ra HOT.out.len HOT.out.ok (by unfold maxLen; omega)
    cases e
    exact h2
  · obtain ⟨A2, c2, e, h2⟩ := own_ints rb HOB.out.len HOB.out.wf (by unfold maxLen; omega)
    cases e
    exact h2
end Go.Proofs.YtcglbbabfkbcbadGreat
