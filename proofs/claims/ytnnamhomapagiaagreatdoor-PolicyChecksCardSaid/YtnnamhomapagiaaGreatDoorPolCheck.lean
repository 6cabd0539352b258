/-
  policy.Check: it answers as the document's own check.
-/
import Derived.Test.YtnnamhomapagiaaGreatDoorPolFits2
namespace Go.Proofs.YtnnamhomapagiaaGreatDoor
open Go.ChangeShapes Go.WideShapes Go.ChangeAt Go.RowKit Go.Deep

structure CkS (w0 w' : World) (b b1 : Nat) (nm : ByteArray) (A : Option Addr) (n c : Nat) (x : Ti) : Prop where
  bx : Bx w' b 24 #[.string nm, .slice A n c]
  xb : Bx w' b1 49 #[.string x.nm, .int .i64 x.ev, .int .i64 x.kp, .int .i64 x.sh]
  bel : Below w0.heap.size w0 w'
section
variable {w0 w w' : World} {b b1 : Nat} {nm : ByteArray} {A : Option Addr} {n c : Nat} {x : Ti}
theorem CkS.below (h : CkS w0 w b b1 nm A n c x) (hb : Below w.heap.size w w') : CkS w0 w' b b1 nm A n c x := ⟨h.bx.below hb, h.xb.below hb, h.bel.trans (hb.mono h.bel.size)⟩
theorem CkS.drew (h : CkS w0 w b b1 nm A n c x) : CkS w0 w.drew b b1 nm A n c x := h.below ((Below.refl _ _).drew)
theorem CkS.full (h : CkS w0 w b b1 nm A n c x) : CkS w0 w b b1 nm A n c x ∧ w.cell? ⟨b, 1, none⟩ = some (.slice A n c) ∧ w.cell? ⟨b1, 0, none⟩ = some (.string x.nm) ∧ w.cell? ⟨b1, 1, none⟩ = some (.int .i64 x.ev) ∧ w.cell? ⟨b1, 2, none⟩ = some (.int .i64 x.kp) ∧ w.cell? ⟨b1, 3, none⟩ = some (.int .i64 x.sh) :=
  ⟨h, h.bx.at_ 1 rfl, h.xb.at_ 0 rfl, h.xb.at_ 1 rfl, h.xb.at_ 2 rfl, h.xb.at_ 3 rfl⟩
end
theorem own_slice_take {w : World} {A : Option Addr} {n j : Nat} {l : List Ti} (h : Tis w A n l) (hj : j ≤ n) : Tis w A j (l.take j) := by
  have hl := h.len
  have hn := h.n_le
  refine ⟨⟨fun hne => ?_⟩, by rw [List.length_take]; omega, by omega, fun t ht => h.ok t (List.mem_of_mem_take ht)⟩
  have e : l.flatMap Ti.cells = (l.take j).flatMap Ti.cells ++ (l.drop j).flatMap Ti.cells := by rw [← List.flatMap_append, List.take_append_drop]
  obtain ⟨b, off, e2, hb, hc⟩ := h.sl.at_ (fun e3 => hne (by rw [e] at e3; exact (List.append_eq_nil_iff.1 e3).1))
  refine ⟨b, off, e2, hb, fun i u hu => hc i u ?_⟩
  have hi := (List.getElem?_eq_some_iff.1 hu).1
  rw [e, List.getElem?_append_left hi]; exact hu
set_option maxRecDepth 100000 in
set_option maxHeartbeats 4000000 in
theorem check_any (nm : ByteArray) (A : Option Addr) (n c : Nat) (ts : List Ti) (w : World) (hnm : nm.size ≤ maxLen) (h : Tis w A n ts) (hc : n ≤ c) :
    Calls Tryz.prog 7 #[polV nm A n c] w fun e w' => e = .returned (.tuple #[.int .i64 (checkR nm.toList ts).1, .int .i64 (checkR nm.toList ts).2]) ∧ Below w.heap.size w w' := by
  have hn := h.n_le
  unfold maxLen at hn
  have hln := h.len
  have b0 := Bx.new w 24 #[.string nm, .slice A n c]
  have hb0 : Below w.heap.size w (w.alloc (.cells #[.string nm, .slice A n c] 24)) := (Below.refl _ w).alloc (Nat.le_refl _) _
  have b1 := b0.alloc (.cells #[.string nm] 9)
  have hb1 := hb0.alloc hb0.size (.cells #[.string nm] 9)
  have HV := Lib.hid (valid_one nm (w.alloc (.cells #[.string nm, .slice A n c] 24)) hnm 1)
  rw [show (w.alloc (.cells #[.string nm, .slice A n c] 24)).heap.size = w.heap.size + 1 from by simp] at HV
  have x1 := b1.at_ 1 rfl
  have HT := Lib.hid h
  have HB1 := Lib.hid b1
  clear h b0 hb0
  cases hv : validB nm.toList
  · have HF := Lib.hid (show checkR nm.toList ts = (23, 0) from by unfold checkR; rw [hv]; rfl)
    rw [hv] at HV
    go_enter Tryz.func7, Tryz.ntmps7
    go_wp2_with (first
      | (go_at_call 19; refine HV.out.mono ?_; rintro e w1 ⟨rfl, rfl⟩))
    go_ret2
    exact ⟨by rw [HF.out]; rfl, hb1⟩
  rw [hv] at HV
  cases hin : withinB (n : Int) 5
  · have HF := Lib.hid (show checkR nm.toList ts = (23, 0) from by
      have hne : ¬ (1 ≤ (n : Int) ∧ (n : Int) ≤ 5) := fun e => by rw [within_iff.2 e] at hin; cases hin
      unfold checkR; rw [hv, hln]
      have : n < 1 ∨ 5 < n := by omega
      rw [if_pos (by simpa using this)])
    go_enter Tryz.func7, Tryz.ntmps7
    go_wp2_with (first
      | (go_at_call 19; refine HV.out.mono ?_; rintro e w1 ⟨rfl, rfl⟩)
      | (go_at_call 20; refine (within_any _ _ _).mono ?_; rintro e w1 ⟨rfl, rfl⟩))
    go_ret2
    exact ⟨by rw [HF.out]; rfl, hb1⟩
  have hin' := within_iff.1 hin
  have HF := Lib.hid (show checkR nm.toList ts = match (List.range n).find? (badAt ts) with | some i => (23, (i : Int) + 1) | none => (0, 0) from by
    unfold checkR; rw [hv, hln, decide_eq_false (show ¬ n < 1 by omega), decide_eq_false (show ¬ 5 < n by omega)]; rfl)
  clear hv
  go_enter Tryz.func7, Tryz.ntmps7
  go_wp2_with (first
    | (go_at_call 19; refine HV.out.mono ?_; rintro e w1 ⟨rfl, rfl⟩)
    | (go_at_call 20; refine (within_any _ _ _).mono ?_; rintro e w1 ⟨rfl, rfl⟩))
  go_loopw [4, 5, 21] (fun _ _ i wr => ∃ j : Nat, j ≤ n ∧ i = .int .i64 j ∧ Hid (∀ i, i < j → badAt ts i = false) ∧ Bx wr w.heap.size 24 #[.string nm, .slice A n c] ∧ Below w.heap.size w wr) (fun _ _ i _ => n - (intOf i).toNat)
  case atStart => exact ⟨0, Nat.zero_le _, rfl, Lib.hid (fun i hi => absurd hi (by omega)), HB1.out, hb1⟩
  case round =>
    clear HB1 hb1 x1 HV hin
    obtain ⟨j, hj, rfl, HA, bx, hbr⟩ := hrel
    by_cases hlt : j < n
    · have K : j < ts.length := by rw [hln]; exact hlt
      have hok := HT.out.ok _ (List.getElem_mem K)
      have hbx := (Below.refl wr.heap.size wr).alloc (Nat.le_refl _) (.cells #[.string (ts[j]'K).nm, .int .i64 (ts[j]'K).ev, .int .i64 (ts[j]'K).kp, .int .i64 (ts[j]'K).sh] 49)
      have HC := Lib.hid (fun W (hW : Below w.heap.size w W) => fits_any ts j K A c W HA.out (own_slice_take (HT.out.below hW) hj) hok)
      obtain ⟨b, off, rfl, hbl, X⟩ := (HT.out.below hbr).get K
      obtain ⟨r0, r1, r2, r3⟩ := X
      have q1 := bx.at_ 1 rfl
      have XB := Bx.new wr 49 #[.string (ts[j]'K).nm, .int .i64 (ts[j]'K).ev, .int .i64 (ts[j]'K).kp, .int .i64 (ts[j]'K).sh]
      have S0 : CkS w _ w.heap.size wr.heap.size nm _ n c (ts[j]'K) := ⟨bx.below hbx, XB, hbr.trans (hbx.mono hbr.size)⟩
      generalize (ts[j]'K) = x at *
      have g0 : (0 : Int) ≤ (j : Int) := by omega
      have g1 : (j : Int) < (n : Int) := by omega
      have g2 : (j : Int) ≤ (c : Int) := by omega
      have hjc : j ≤ c := by omega
      have S0D := S0.drew
      clear XB bx hbx hbr
      go_upto_region 6 with fail
      generalize wr.alloc (.cells #[.string x.nm, .int .i64 x.ev, .int .i64 x.kp, .int .i64 x.sh] 49) = w2 at *
      generalize wr.heap.size = b1 at *
      have F0 := S0D.full
      go_region_held3 (fun w' => CkS w w' w.heap.size b1 nm (some ⟨b, off, none⟩) n c x ∧ w'.cell? ⟨w.heap.size, 1, none⟩ = some (.slice (some ⟨b, off, none⟩) n c) ∧ w'.cell? ⟨b1, 0, none⟩ = some (.string x.nm) ∧ w'.cell? ⟨b1, 1, none⟩ = some (.int .i64 x.ev) ∧ w'.cell? ⟨b1, 2, none⟩ = some (.int .i64 x.kp) ∧ w'.cell? ⟨b1, 3, none⟩ = some (.int .i64 x.sh))
        (first
          | assumption
          | exact S0D.full
          | (go_split_ands; exact CkS.full (by assumption))
          | (go_split_ands; exact CkS.full (CkS.below (by assumption) hbo)))
        (first
          | (go_at_call 21; go_split_ands; refine (HC.out _ (CkS.bel (by assumption))).mono ?_; rintro e wo ⟨rfl, hbo⟩))
      go_split_ands
      have S1 : CkS w wo w.heap.size b1 nm (some ⟨b, off, none⟩) n c x := by assumption
      have hbf := S1.bel
      have bxf := S1.bx
      have HNXT := Lib.hid (show badAt ts j = false → ∀ i, i < j + 1 → badAt ts i = false from fun e i hi => by
        by_cases e2 : i = j
        · rw [e2]; exact e
        · exact HA.out i (by omega))
      have HRET := Lib.hid (show badAt ts j = true → checkR nm.toList ts = (23, (j : Int) + 1) from fun e => by rw [HF.out, find_first hlt e HA.out])
      have hadd : IntKind.i64.wrap ((j : Int) + 1) = (j : Int) + 1 := IntWalk.i64_in _ (by omega)
      clear S0 S0D S1 HC
      cases hbad : badAt ts j
      · have HN := Lib.hid (HNXT.out hbad)
        clear HNXT HRET hbad
        go_wp2
        go_roundw
        case rel => exact ⟨j + 1, by omega, by go_num, HN, bxf, hbf⟩
        case measure => simp [intOf]; omega
      · have HR := Lib.hid (HRET.out hbad)
        clear HNXT HRET hbad
        go_wp2
        go_ret2
        exact ⟨by rw [HR.out]; rfl, hbf⟩
    · have hje : j = n := by omega
      subst hje
      have HR := Lib.hid (show checkR nm.toList ts = (0, 0) from by rw [HF.out, find_no HA.out])
      have q1 := bx.at_ 1 rfl
      go_wp2
      go_ret2
      exact ⟨by rw [HR.out]; rfl, hbr⟩
end Go.Proofs.YtnnamhomapagiaaGreatDoor
