/-
  The document's own Floor, Back, From, Start.
-/
import Derived.Test.YtcglbbabfkbcbadGreatReach2
namespace Go.Proofs.YtcglbbabfkbcbadGreat
open Go.ChangeShapes Go.WideShapes Go.ChangeAt Go.RowKit Go.Deep

theorem cell_drewN {w : World} {p : Addr} {v : Value} (h : w.cell? p = some v) (q : Nat) : (w.drewN q).cell? p = some v :=
  ((below_drewN (Below.refl w.heap.size w) q).cell (p := p) (World.block_lt_of_cell? _ _ h)).trans h
set_option maxHeartbeats 1000000 in
theorem refFloorE_any (t e : Int) (w : World) (h : 0 ≤ t ∧ t ≤ 9223372036854775807) (he : -9223372036854775808 ≤ e ∧ e ≤ 9223372036854775807) : Calls Tryz.prog 82 #[.int .i64 t, .int .i64 e] w fun x w' => x = .returned (.int .i64 (flrE t e)) ∧ w = w' := by
  by_cases h1 : e < 1
  · have HF := Lib.hid (show flrE t e = t from if_pos h1)
    have hd : decide (e < 1) = true := decide_eq_true h1
    go_enter Tryz.func82, Tryz.ntmps82
    go_wp2
    go_ret
    exact ⟨ret_int HF.out.symm, rfl⟩
  · obtain ⟨h2, h3⟩ := h
    have HF := Lib.hid (show flrE t e = flr t e from if_neg h1)
    have hne : e ≠ 0 := by omega
    have g1 := Int.emod_nonneg t hne
    have g2 := flr_bd h2 (show 1 ≤ e by omega)
    have HT := Lib.hid (tmod_pos h2 e)
    have hd : decide (e < 1) = false := decide_eq_false h1
    have hm : decide (t % e < 0) = false := decide_eq_false (by omega)
    have hm' : decide (t.tmod e < 0) = false := by rw [HT.out]; exact hm
    unfold flr at g2
    obtain ⟨g3, g4⟩ := g2
    have hl : decide (t < -9223372036854775808 + t % e) = false := decide_eq_false (by omega)
    go_enter Tryz.func82, Tryz.ntmps82
    go_wp2
    go_ret
    exact ⟨ret_int (by rw [HF.out]; unfold flr; first | rfl | (rw [HT.out])), rfl⟩
set_option maxHeartbeats 1000000 in
theorem refBack_any (now keep ev : Int) (w : World) (hn : -9223372036854775808 ≤ now ∧ now ≤ 9223372036854775807) (hk : -9223372036854775808 ≤ keep ∧ keep ≤ 9223372036854775807) (he : -9223372036854775808 ≤ ev ∧ ev ≤ 9223372036854775807) :
    Calls Tryz.prog 90 #[.int .i64 now, .int .i64 keep, .int .i64 ev] w fun x w' => x = .returned (.int .i64 (backI now keep ev)) ∧ w = w' := by
  by_cases h1 : now < 0
  · have HF := Lib.hid (show backI now keep ev = 0 from if_pos (.inl h1))
    go_enter Tryz.func90, Tryz.ntmps90
    go_wp2
    go_ret
    exact ⟨ret_int HF.out.symm, rfl⟩
  · have hd1 : decide (now < 0) = false := decide_eq_false h1
    by_cases h2 : keep < 0
    · have HF := Lib.hid (show backI now keep ev = 0 from if_pos (.inr (.inl h2)))
      go_enter Tryz.func90, Tryz.ntmps90
      go_wp2
      go_ret
      exact ⟨ret_int HF.out.symm, rfl⟩
    · have hd2 : decide (keep < 0) = false := decide_eq_false h2
      by_cases h3 : ev < 1
      · have HF := Lib.hid (show backI now keep ev = 0 from if_pos (.inr (.inr (.inl h3))))
        go_enter Tryz.func90, Tryz.ntmps90
        go_wp2
        go_ret
        exact ⟨ret_int HF.out.symm, rfl⟩
      · have hd3 : decide (ev < 1) = false := decide_eq_false h3
        by_cases h4 : now < keep
        · have HF := Lib.hid (show backI now keep ev = 0 from if_pos (.inr (.inr (.inr h4))))
          go_enter Tryz.func90, Tryz.ntmps90
          go_wp2
          go_ret
          exact ⟨ret_int HF.out.symm, rfl⟩
        · have hd4 : decide (now < keep) = false := decide_eq_false h4
          have HF := Lib.hid (show backI now keep ev = flrE (now - keep) ev from (if_neg (by omega)).trans (if_neg h3).symm)
          go_enter Tryz.func90, Tryz.ntmps90
          go_wp2_with fail
          refine (refFloorE_any (now - keep) ev _ ⟨by omega, by omega⟩ he).mono ?_
          rintro e w1 ⟨rfl, rfl⟩
          go_wp2
          go_ret
          exact ⟨ret_int HF.out.symm, rfl⟩
theorem refFrom_out (A : Option Addr) (n c : Nat) (B : Option Addr) (m d : Nat) (r : Rch) (i : Int) (w : World) (hi : isB n i = false) :
    Calls Tryz.prog 40 #[rchV r.now r.nm A n c B m d, .int .i64 i] w fun e w' => e = .returned (.int .i64 0) ∧ Below w.heap.size w w' := by
  have hb0 : Below w.heap.size w (w.alloc (.cells #[.int .i64 r.now, .string r.nm, .slice A n c, .slice B m d] 33)) := (Below.refl _ w).alloc (Nat.le_refl _) _
  have b0 := Bx.new w 33 #[.int .i64 r.now, .string r.nm, .slice A n c, .slice B m d]
  have q2 := b0.at_ 2 rfl
  unfold isB at hi
  rw [decide_eq_false_iff_not] at hi
  by_cases h0 : i < 0
  · have hd : decide (i < 0) = true := decide_eq_true h0
    clear hi
    go_enter Tryz.func40, Tryz.ntmps40
    go_wp2
    go_ret
    exact ⟨rfl, hb0⟩
  · have hd : decide (i < 0) = false := decide_eq_false h0
    have hd2 : decide ((n : Int) ≤ i) = true := decide_eq_true (by omega)
    have hni : (n : Int) ≤ i := by omega
    clear hi
    go_enter Tryz.func40, Tryz.ntmps40
    go_wp2
    go_ret
    exact ⟨rfl, hb0⟩
set_option maxRecDepth 100000 in
set_option maxHeartbeats 4000000 in
theorem refFrom_in (A : Option Addr) (n c : Nat) (B : Option Addr) (m d : Nat) (r : Rch) (i : Nat) (w : World) (h : RchAt w A n B m r) (hn : n ≤ 1000000) (hi : i < n) :
    Calls Tryz.prog 40 #[rchV r.now r.nm A n c B m d, .int .i64 i] w fun e w' => e = .returned (.int .i64 (r.from_ i)) ∧ Below w.heap.size w w' := by
  have hln := h.ts.len
  have hlm := h.fs.len
  have K : i < r.ts.length := by rw [hln]; exact hi
  obtain ⟨j, hj⟩ : ∃ j, j = min (i + 1) (r.ts.length - 1) := ⟨_, rfl⟩
  have K2 : j < r.ts.length := by omega
  have HBK := Lib.hid (show r.nextEv i = (r.ts[j]'K2).ev from by unfold Rch.nextEv; rw [← hj, List.getElem?_eq_getElem K2]; rfl)
  have HFM := Lib.hid (show r.fs[i]? = none → r.from_ i = backI r.now (r.ts[i]'K).kp (r.ts[j]'K2).ev from fun hz => by
    unfold Rch.from_; rw [List.getElem?_eq_getElem K, hz, ← HBK.out])
  have HFS := Lib.hid (show ∀ f, r.fs[i]? = some f → r.from_ i = max (backI r.now (r.ts[i]'K).kp (r.ts[j]'K2).ev) f from fun f hf => by
    unfold Rch.from_; rw [List.getElem?_eq_getElem K, hf, ← HBK.out])
  have hb0 : Below w.heap.size w (w.alloc (.cells #[.int .i64 r.now, .string r.nm, .slice A n c, .slice B m d] 33)) := (Below.refl _ w).alloc (Nat.le_refl _) _
  have b0 := Bx.new w 33 #[.int .i64 r.now, .string r.nm, .slice A n c, .slice B m d]
  have q0 := b0.at_ 0 rfl
  have q2 := b0.at_ 2 rfl
  have q3 := b0.at_ 3 rfl
  obtain ⟨b, off, rfl, hbl, X⟩ := (h.ts.below hb0).get K
  obtain ⟨b', off', e', _, Y⟩ := (h.ts.below hb0).get K2
  cases e'
  have x1 := X.c1
  have x2 := X.c2
  have y1 := Y.c1
  have hok := h.ts.ok _ (List.getElem_mem K)
  have hok2 := h.ts.ok _ (List.getElem_mem K2)
  have HBA := Lib.hid (fun W => refBack_any r.now (r.ts[i]'K).kp (r.ts[j]'K2).ev W h.now hok.kp hok2.ev)
  have HFF := Lib.hid (h.fs.below hb0)
  have hfw := Lib.hid h.fs.wf
  have hmm := h.fs.n_le
  unfold maxLen at hmm
  have HSAME := Lib.hid (show i + 1 = n → (r.ts[i]'K).ev = (r.ts[j]'K2).ev from fun e => by
    have : i = j := by omega
    subst this; rfl)
  have hjj : (i + 1 < n → j = i + 1) := by omega
  clear h X Y hok hok2 b0 hj
  generalize (r.ts[i]'K) = x at *
  generalize (r.ts[j]'K2) = y at *
  obtain ⟨z, hz⟩ : ∃ z, backI r.now x.kp y.ev = z := ⟨_, rfl⟩
  rw [hz] at HBA HFM HFS
  have HZ := Lib.hid hz
  clear hz
  have g0 : (0 : Int) ≤ (i : Int) := by omega
  have g1 : (i : Int) < (n : Int) := by omega
  have d0 : decide ((i : Int) < 0) = false := decide_eq_false (by omega)
  have d1 : decide ((n : Int) ≤ (i : Int)) = false := decide_eq_false (by omega)
  by_cases hl : i + 1 < n
  · have hj1 := hjj hl
    subst hj1
    have d2 : decide ((i : Int) + 1 < (n : Int)) = true := decide_eq_true (by omega)
    have g2 : (i : Int) + 1 < (n : Int) := by omega
    clear hjj
    by_cases him : i < m
    · have KF : i < r.fs.length := by rw [hlm]; exact him
      obtain ⟨bf, of, rfl, _, f0⟩ := HFF.out.get KF
      have HR := Lib.hid (HFS.out _ (List.getElem?_eq_getElem KF))
      generalize (r.fs[i]'KF) = f at *
      have g4 : (i : Int) < (m : Int) := by omega
      go_enter Tryz.func40, Tryz.ntmps40
      go_wp2_with fail
      go_quiet ((go_at_call 90; exact Calls.quiet_of_same ((HBA.out _).mono fun _ _ ⟨h1, h2⟩ => ⟨h1, h2.symm⟩)))
      have s3 := cell_drewN q3 nq
      have s4 := cell_drewN f0 nq
      clear q0 q2 q3 f0 x1 x2 y1
      have hbd := below_drewN hb0 nq
      generalize World.drewN _ nq = wd at *
      go_wp2
      go_ret
      exact ⟨ret_int (by rw [HR.out]), hbd⟩
    · have HR := Lib.hid (HFM.out (List.getElem?_eq_none (by rw [hlm]; omega)))
      have hd : decide ((i : Int) < (m : Int)) = false := decide_eq_false (by omega)
      go_enter Tryz.func40, Tryz.ntmps40
      go_wp2_with fail
      go_quiet ((go_at_call 90; exact Calls.quiet_of_same ((HBA.out _).mono fun _ _ ⟨h1, h2⟩ => ⟨h1, h2.symm⟩)))
      have s3 := cell_drewN q3 nq
      clear q0 q2 q3 x1 x2 y1
      have hbd := below_drewN hb0 nq
      generalize World.drewN _ nq = wd at *
      go_wp2
      go_ret
      exact ⟨ret_int HR.out.symm, hbd⟩
  · have HE := Lib.hid (HSAME.out (by omega))
    rw [HE.out] at x1
    have d2 : decide ((i : Int) + 1 < (n : Int)) = false := decide_eq_false (by omega)
    clear hjj
    by_cases him : i < m
    · have KF : i < r.fs.length := by rw [hlm]; exact him
      obtain ⟨bf, of, rfl, _, f0⟩ := HFF.out.get KF
      have HR := Lib.hid (HFS.out _ (List.getElem?_eq_getElem KF))
      generalize (r.fs[i]'KF) = f at *
      have g4 : (i : Int) < (m : Int) := by omega
      go_enter Tryz.func40, Tryz.ntmps40
      go_wp2_with fail
      go_quiet ((go_at_call 90; exact Calls.quiet_of_same ((HBA.out _).mono fun _ _ ⟨h1, h2⟩ => ⟨h1, h2.symm⟩)))
      have s3 := cell_drewN q3 nq
      have s4 := cell_drewN f0 nq
      clear q0 q2 q3 f0 x1 x2 y1
      have hbd := below_drewN hb0 nq
      generalize World.drewN _ nq = wd at *
      go_wp2
      go_ret
      exact ⟨ret_int (by rw [HR.out]), hbd⟩
    · have HR := Lib.hid (HFM.out (List.getElem?_eq_none (by rw [hlm]; omega)))
      have hd : decide ((i : Int) < (m : Int)) = false := decide_eq_false (by omega)
      go_enter Tryz.func40, Tryz.ntmps40
      go_wp2_with fail
      go_quiet ((go_at_call 90; exact Calls.quiet_of_same ((HBA.out _).mono fun _ _ ⟨h1, h2⟩ => ⟨h1, h2.symm⟩)))
      have s3 := cell_drewN q3 nq
      clear q0 q2 q3 x1 x2 y1
      have hbd := below_drewN hb0 nq
      generalize World.drewN _ nq = wd at *
      go_wp2
      go_ret
      exact ⟨ret_int HR.out.symm, hbd⟩
theorem refFrom_any (A : Option Addr) (n c : Nat) (B : Option Addr) (m d : Nat) (r : Rch) (i : Int) (w : World) (h : RchAt w A n B m r) (hn : n ≤ 1000000) :
    Calls Tryz.prog 40 #[rchV r.now r.nm A n c B m d, .int .i64 i] w fun e w' => e = .returned (.int .i64 (r.fromI i)) ∧ Below w.heap.size w w' := by
  cases hi : isB n i
  · have e : r.fromI i = 0 := by unfold Rch.fromI; rw [h.ts.len, hi]; rfl
    rw [e]
    exact refFrom_out A n c B m d r i w hi
  · obtain ⟨k, rfl, hk⟩ := isB_some hi
    have e : r.fromI (k : Int) = r.from_ k := by unfold Rch.fromI; rw [h.ts.len, hi, if_pos rfl, Int.toNat_natCast]
    rw [e]
    exact refFrom_in A n c B m d r k w h hn hk
end Go.Proofs.YtcglbbabfkbcbadGreat
