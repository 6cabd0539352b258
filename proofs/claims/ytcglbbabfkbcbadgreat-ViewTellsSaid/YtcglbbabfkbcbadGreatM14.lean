/-
  Several texts in one: RefViewFr, RefReach2.
-/
import Derived.Test.YtcglbbabfkbcbadGreatRefTab
import Derived.Test.YtcglbbabfkbcbadGreatRefReach
/- A frame of 82 slots of which some are known: the others are what one function of the number says. -/
namespace Go.Proofs.YtcglbbabfkbcbadGreat
open Go.RowKit

/-- What is known of a frame. -/
def Fr82 (a : Act) (l : List (Nat × Value)) : Prop := a.defers = [] ∧ a.tmps.toList.length = 82 ∧ l.foldr (fun p r => a.tmps.toList[p.1]? = some p.2 ∧ r) True
theorem lits82 (l : List Value) : l = (List.range l.length).map fun i => l.getD i undef := by
  apply List.ext_getElem?
  intro i
  by_cases h : i < l.length
  · rw [List.getElem?_map, List.getElem?_range h, List.getElem?_eq_getElem h]
    simp [List.getD_eq_getElem?_getD, h]
  · rw [List.getElem?_eq_none (by omega), List.getElem?_eq_none (by simp; omega)]
set_option maxRecDepth 100000 in
theorem list82 (l : List Value) (h : l.length = 82) : ∃ u : Nat → Value, l = u 0 :: u 1 :: u 2 :: u 3 :: u 4 :: u 5 :: u 6 :: u 7 :: u 8 :: u 9 :: u 10 :: u 11 :: u 12 :: u 13 :: u 14 :: u 15 :: u 16 :: u 17 :: u 18 :: u 19 :: u 20 :: u 21 :: u 22 :: u 23 :: u 24 :: u 25 :: u 26 :: u 27 :: u 28 :: u 29 :: u 30 :: u 31 :: u 32 :: u 33 :: u 34 :: u 35 :: u 36 :: u 37 :: u 38 :: u 39 :: u 40 :: u 41 :: u 42 :: u 43 :: u 44 :: u 45 :: u 46 :: u 47 :: u 48 :: u 49 :: u 50 :: u 51 :: u 52 :: u 53 :: u 54 :: u 55 :: u 56 :: u 57 :: u 58 :: u 59 :: u 60 :: u 61 :: u 62 :: u 63 :: u 64 :: u 65 :: u 66 :: u 67 :: u 68 :: u 69 :: u 70 :: u 71 :: u 72 :: u 73 :: u 74 :: u 75 :: u 76 :: u 77 :: u 78 :: u 79 :: u 80 :: u 81 :: [] := by
  have h1 := lits82 l
  rw [h] at h1
  exact ⟨fun i => l.getD i undef, h1⟩
set_option maxRecDepth 100000 in
theorem frv_loop {a : Act} {v1 v2 v3 v7 v8 : Value} (h : Fr82 a [(1, v1), (2, v2), (3, v3), (7, v7), (8, v8)]) : ∃ u : Nat → Value, a = ⟨List.toArray (u 0 :: v1 :: v2 :: v3 :: u 4 :: u 5 :: u 6 :: v7 :: v8 :: u 9 :: u 10 :: u 11 :: u 12 :: u 13 :: u 14 :: u 15 :: u 16 :: u 17 :: u 18 :: u 19 :: u 20 :: u 21 :: u 22 :: u 23 :: u 24 :: u 25 :: u 26 :: u 27 :: u 28 :: u 29 :: u 30 :: u 31 :: u 32 :: u 33 :: u 34 :: u 35 :: u 36 :: u 37 :: u 38 :: u 39 :: u 40 :: u 41 :: u 42 :: u 43 :: u 44 :: u 45 :: u 46 :: u 47 :: u 48 :: u 49 :: u 50 :: u 51 :: u 52 :: u 53 :: u 54 :: u 55 :: u 56 :: u 57 :: u 58 :: u 59 :: u 60 :: u 61 :: u 62 :: u 63 :: u 64 :: u 65 :: u 66 :: u 67 :: u 68 :: u 69 :: u 70 :: u 71 :: u 72 :: u 73 :: u 74 :: u 75 :: u 76 :: u 77 :: u 78 :: u 79 :: u 80 :: u 81 :: []), []⟩ := by
  obtain ⟨hd, hs, h1, h2, h3, h7, h8, _⟩ := h
  obtain ⟨t, d⟩ := a
  obtain ⟨l⟩ := t
  have hd' : d = [] := hd
  subst hd'
  obtain ⟨u, rfl⟩ := list82 l hs
  have e1 : u 1 = v1 := Option.some.inj h1; subst e1; have e2 : u 2 = v2 := Option.some.inj h2; subst e2; have e3 : u 3 = v3 := Option.some.inj h3; subst e3; have e7 : u 7 = v7 := Option.some.inj h7; subst e7; have e8 : u 8 = v8 := Option.some.inj h8; subst e8
  exact ⟨u, rfl⟩
end Go.Proofs.YtcglbbabfkbcbadGreat
/- The document's own Start and Cover. -/
namespace Go.Proofs.YtcglbbabfkbcbadGreat
open Go.ChangeShapes Go.WideShapes Go.ChangeAt Go.RowKit Go.Deep

set_option maxRecDepth 100000 in
set_option maxHeartbeats 4000000 in
theorem refStart_any (A : Option Addr) (n c : Nat) (B : Option Addr) (m d : Nat) (r : Rch) (i t : Int) (w : World) (h : RchAt w A n B m r) (hn : n ≤ 1000000) (ht : -9223372036854775808 ≤ t ∧ t ≤ 9223372036854775807) :
    Calls Tryz.prog 32 #[rchV r.now r.nm A n c B m d, .int .i64 i, .int .i64 t] w fun e w' => e = .returned (.tuple #[.int .i64 (r.start i t), .bool (r.has i t)]) ∧ Below w.heap.size w w' := by
  have hb0 : Below w.heap.size w (w.alloc (.cells #[.int .i64 r.now, .string r.nm, .slice A n c, .slice B m d] 33)) := (Below.refl _ w).alloc (Nat.le_refl _) _
  have b0 := Bx.new w 33 #[.int .i64 r.now, .string r.nm, .slice A n c, .slice B m d]
  have q0 := b0.at_ 0 rfl
  have q1 := b0.at_ 1 rfl
  have q2 := b0.at_ 2 rfl
  have q3 := b0.at_ 3 rfl
  cases hi : isB n i
  · have HF := Lib.hid (show r.start i t = 0 ∧ r.has i t = false from by unfold Rch.start Rch.has; rw [h.ts.len, hi]; simp)
    unfold isB at hi
    rw [decide_eq_false_iff_not] at hi
    by_cases h0 : i < 0
    · have hd : decide (i < 0) = true := decide_eq_true h0
      clear hi h b0
      go_enter Tryz.func32, Tryz.ntmps32
      go_wp2
      go_ret2
      exact ⟨by rw [HF.out.1, HF.out.2]; rfl, hb0⟩
    · have hd : decide (i < 0) = false := decide_eq_false h0
      have hd2 : decide ((n : Int) ≤ i) = true := decide_eq_true (by omega)
      have hni : (n : Int) ≤ i := by omega
      clear hi h b0
      go_enter Tryz.func32, Tryz.ntmps32
      go_wp2
      go_ret2
      exact ⟨by rw [HF.out.1, HF.out.2]; rfl, hb0⟩
  · obtain ⟨k, rfl, hk⟩ := isB_some hi
    have d0 : decide ((k : Int) < 0) = false := decide_eq_false (by omega)
    have d1 : decide ((n : Int) ≤ (k : Int)) = false := decide_eq_false (by omega)
    have g0 : (0 : Int) ≤ (k : Int) := by omega
    have g1 : (k : Int) < (n : Int) := by omega
    by_cases h0 : 0 ≤ t
    · have K : k < r.ts.length := by rw [h.ts.len]; exact hk
      have hlen := h.ts.len
      have HS := Lib.hid (show r.start (k : Int) t = flrE t (r.ts[k]'K).ev from by
        unfold Rch.start; rw [hlen, hi, if_pos ⟨rfl, h0⟩, Int.toNat_natCast, List.getElem?_eq_getElem K]; rfl)
      have HH := Lib.hid (show r.has (k : Int) t = decide (r.from_ k ≤ r.start (k : Int) t) from by
        unfold Rch.has Rch.fromI; rw [hlen, hi, if_pos rfl, Int.toNat_natCast]; simp [h0])
      have hd : decide (t < 0) = false := decide_eq_false (by omega)
      have HFR := Lib.hid (fun W (hW : RchAt W A n B m r) => refFrom_in A n c B m d r k W hW hn hk)
      have hev := (h.ts.ok _ (List.getElem_mem K)).ev
      obtain ⟨b, off, rfl, hbl, X⟩ := (h.ts.below hb0).get K
      have x1 := X.c1
      have HT1 := Lib.hid (h.below hb0)
      clear hi h b0 X hlen
      generalize (r.ts[k]'K) = x at *
      obtain ⟨z, hz⟩ : ∃ z, flrE t x.ev = z := ⟨_, rfl⟩
      have HF := Lib.hid (fun W => refFloorE_any t x.ev W ⟨h0, ht.2⟩ hev)
      rw [hz] at HF HS
      have HZ := Lib.hid hz
      clear hz
      go_enter Tryz.func32, Tryz.ntmps32
      go_wp2_with fail
      refine (HF.out _).mono ?_
      rintro e w2 ⟨rfl, rfl⟩
      go_wp2_with fail
      refine (HFR.out _ HT1.out).mono ?_
      rintro e w3 ⟨rfl, hb3⟩
      go_wp2
      go_ret2
      exact ⟨by rw [HH.out, HS.out]; rfl, hb0.trans (hb3.mono hb0.size)⟩
    · have HF := Lib.hid (show r.start (k : Int) t = 0 ∧ r.has (k : Int) t = false from by unfold Rch.start Rch.has; rw [if_neg (fun e => h0 e.2), decide_eq_false h0]; simp)
      have hneg : t < 0 := by omega
      have hd : decide (t < 0) = true := decide_eq_true hneg
      clear hi h b0
      go_enter Tryz.func32, Tryz.ntmps32
      go_wp2
      go_ret2
      exact ⟨by rw [HF.out.1, HF.out.2]; rfl, hb0⟩
set_option maxRecDepth 100000 in
set_option maxHeartbeats 4000000 in
theorem refCover_any (A : Option Addr) (n c : Nat) (B : Option Addr) (m d : Nat) (r : Rch) (f : Int) (w : World) (h : RchAt w A n B m r) (hn : n ≤ 1000000) :
    Calls Tryz.prog 19 #[rchV r.now r.nm A n c B m d, .int .i64 f] w fun e w' => e = .returned (.int .i64 (r.cover f)) ∧ Below w.heap.size w w' := by
  have hb0 : Below w.heap.size w (w.alloc (.cells #[.int .i64 r.now, .string r.nm, .slice A n c, .slice B m d] 33)) := (Below.refl _ w).alloc (Nat.le_refl _) _
  have b0 := Bx.new w 33 #[.int .i64 r.now, .string r.nm, .slice A n c, .slice B m d]
  have HL := Lib.hid h.ts.len
  have HT := Lib.hid h
  clear h
  go_enter Tryz.func19, Tryz.ntmps19
  go_wp2_with fail
  go_loopw [5] (fun i wr => ∃ j : Nat, j ≤ n ∧ i = .int .i64 j ∧ Hid (∀ i, i < j → f < r.from_ i) ∧ Bx wr w.heap.size 33 #[.int .i64 r.now, .string r.nm, .slice A n c, .slice B m d] ∧ Below w.heap.size w wr) (fun i _ => n - (intOf i).toNat)
  case atStart => exact ⟨0, Nat.zero_le _, rfl, Lib.hid (fun i hi => absurd hi (by omega)), b0, hb0⟩
  case round =>
    clear b0 hb0
    obtain ⟨j, hj, rfl, HA, p, hbr⟩ := hrel
    have q0 := p.at_ 0 rfl
    have q1 := p.at_ 1 rfl
    have q2 := p.at_ 2 rfl
    have q3 := p.at_ 3 rfl
    by_cases hlt : j < n
    · have HFR := Lib.hid (refFrom_in A n c B m d r j wr (HT.out.below hbr) hn hlt)
      obtain ⟨z, hz⟩ : ∃ z, r.from_ j = z := ⟨_, rfl⟩
      rw [hz] at HFR
      by_cases hc : z ≤ f
      · have HC := Lib.hid (cover_at (r := r) (f := f) (j := j) (by rw [HL.out]; exact hlt) (by rw [hz]; exact hc) (fun i hi => by have := HA.out i hi; omega))
        clear hz
        go_wp2_with fail
        refine HFR.out.mono ?_
        rintro e w2 ⟨rfl, hb2⟩
        go_wp2
        go_ret
        exact ⟨ret_int HC.out.symm, hbr.trans (hb2.mono hbr.size)⟩
      · have HN := Lib.hid (show ∀ i, i < j + 1 → f < r.from_ i from fun i hi => by
          by_cases e : i = j
          · subst e; omega
          · exact HA.out i (by omega))
        have hd : decide (z ≤ f) = false := decide_eq_false hc
        clear hz
        go_wp2_with fail
        refine HFR.out.mono ?_
        rintro e w2 ⟨rfl, hb2⟩
        go_wp2_with fail
        go_roundw
        case rel => exact ⟨j + 1, by omega, by go_num, HN, p.below hb2, hbr.trans (hb2.mono hbr.size)⟩
        case measure => simp [intOf]; omega
    · have hje : j = n := by omega
      subst hje
      have HC := Lib.hid (show r.cover f = (j : Int) - 1 from by rw [cover_no (r := r) (f := f) (by rw [HL.out]; intro i hi; have := HA.out i hi; omega), HL.out])
      go_wp2
      go_ret
      exact ⟨ret_int HC.out.symm, hbr⟩
end Go.Proofs.YtcglbbabfkbcbadGreat
