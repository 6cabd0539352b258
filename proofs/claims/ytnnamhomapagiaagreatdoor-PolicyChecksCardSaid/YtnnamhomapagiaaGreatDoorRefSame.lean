/-
  sedimentref6.Same, whatever the policies.
-/
import Derived.Test.YtnnamhomapagiaaGreatDoorPolSame
import Derived.Deep.QuietTactic
import Derived.BigQuiet
import Derived.IntWalk
namespace Go.Proofs.YtnnamhomapagiaaGreatDoor
open Go.ChangeShapes Go.WideShapes Go.ChangeAt Go.RowKit Go.Deep

theorem sameP_nm {x y : ByteArray} {a b : List Ti} (h : x ≠ y) : sameP x y a b = false := by
  cases e : sameP x y a b
  · rfl
  · exact absurd (sameP_iff.1 e).1 h
theorem sameP_ts {x y : ByteArray} {a b : List Ti} (h : a ≠ b) : sameP x y a b = false := by
  cases e : sameP x y a b
  · rfl
  · exact absurd (sameP_iff.1 e).2 h
set_option maxRecDepth 100000 in
set_option maxHeartbeats 2000000 in
theorem refSameG_any (x y : ByteArray) (A B : Option Addr) (n m c d : Nat) (a b : List Ti) (w : World) (hA : Tis w A n a) (hB : Tis w B m b) : Calls Tryz.prog 14 #[polV x A n c, polV y B m d] w fun e w' => e = .returned (.bool (sameP x y a b)) ∧ Below w.heap.size w w' := by
  have hn := hA.n_le
  unfold maxLen at hn
  have HL := Lib.hid hA.len
  have HM := Lib.hid hB.len
  have hb : Below w.heap.size w ((w.alloc (.cells #[.string x, .slice A n c] 24)).alloc (.cells #[.string y, .slice B m d] 24)) := ((Below.refl _ _).alloc (Nat.le_refl _) _).alloc (by simp) _
  by_cases hxy : x = y
  rotate_left
  · have HF := Lib.hid (sameP_nm (a := a) (b := b) hxy)
    have h0 : (x.toList == y.toList) = false := beq_eq_false_iff_ne.2 (fun e => hxy (list_eq e))
    clear hxy
    go_enter Tryz.func14, Tryz.ntmps14
    go_wp2_with fail
    go_ret
    exact ⟨ret_bool HF.out.symm, hb⟩
  subst hxy
  by_cases hnm : n = m
  rotate_left
  · have HF := Lib.hid (sameP_ts (x := x) (y := x) (a := a) (b := b) (fun e => hnm (by rw [← HL.out, ← HM.out, e])))
    have h1 : ¬ (n : Int) = (m : Int) := by omega
    clear hnm
    go_enter Tryz.func14, Tryz.ntmps14
    go_wp2_with fail
    go_ret
    exact ⟨ret_bool HF.out.symm, hb⟩
  subst hnm
  have bp := (Bx.new w 24 #[.string x, .slice A n c]).alloc (.cells #[.string x, .slice B n d] 24)
  have bq := Bx.new (w.alloc (.cells #[.string x, .slice A n c] 24)) 24 #[.string x, .slice B n d]
  rw [World.size_alloc] at bq
  go_enter Tryz.func14, Tryz.ntmps14
  go_wp2
  generalize (w.alloc (.cells #[.string x, .slice A n c] 24)).alloc (.cells #[.string x, .slice B n d] 24) = w1 at *
  go_loopw [5] (fun i wr => ∃ j : Nat, j ≤ n ∧ i = .int .i64 j ∧ Below w1.heap.size w1 wr ∧ Hid (∀ i, i < j → a[i]? = b[i]?)) (fun i _ => n - (intOf i).toNat)
  case atStart => exact ⟨0, Nat.zero_le _, rfl, Below.refl _ _, Lib.hid (fun i hi => absurd hi (by omega))⟩
  case round =>
    obtain ⟨j, hj, rfl, hbel, HE⟩ := hrel
    have p1 := (bp.below hbel).at_ 1 rfl
    have q1 := (bq.below hbel).at_ 1 rfl
    have hbw := hb.trans (hbel.mono hb.size)
    by_cases hlt : j < n
    · have K : j < a.length := by rw [HL.out]; exact hlt
      have K2 : j < b.length := by rw [HM.out]; exact hlt
      obtain ⟨g1, o1, rfl, _, X⟩ := (hA.below hbw).get K
      obtain ⟨r0, r1, r2, r3⟩ := X
      obtain ⟨g2, o2, rfl, _, Y⟩ := (hB.below hbw).get K2
      obtain ⟨s0, s1, s2, s3⟩ := Y
      have HX := Lib.hid (show a[j]? = some (a[j]'K) from List.getElem?_eq_getElem K)
      have HY := Lib.hid (show b[j]? = some (b[j]'K2) from List.getElem?_eq_getElem K2)
      generalize a[j]'K = t at *
      generalize b[j]'K2 = u at *
      have g0 : (0 : Int) ≤ (j : Int) := by omega
      have g1 : (j : Int) < (n : Int) := by omega
      clear bp bq
      by_cases htu : t = u
      · have HN := Lib.hid (show ∀ i, i < j + 1 → a[i]? = b[i]? from fun i hi => by
          by_cases e : i = j
          · rw [e, HX.out, HY.out, htu]
          · exact HE.out i (by omega))
        subst htu
        go_wp2
        go_quiet (fail)
        go_wp2
        go_roundw
        case rel => exact ⟨j + 1, by omega, by go_num, below_drewN hbel _, HN⟩
        case measure => simp [intOf]; omega
      · have HF := Lib.hid (sameP_ts (x := x) (y := x) (a := a) (b := b) (fun e => htu (by have := HX.out; rw [e, HY.out] at this; injection this with this; exact this.symm)))
        have fin : ∀ v, v = Value.bool false → ∀ W q, W = wr.drewN q → Ending.returned v = .returned (.bool (sameP x x a b)) ∧ Below w.heap.size w W := by
          rintro v rfl W q rfl
          exact ⟨ret_bool HF.out.symm, below_drewN hbw _⟩
        have FIN := Lib.hid fin
        clear fin HF HE hA hB
        obtain ⟨x0, x1, x2, x3⟩ := t
        obtain ⟨y0, y1, y2, y3⟩ := u
        simp only at r0 r1 r2 r3 s0 s1 s2 s3
        by_cases h0 : x0 = y0
        · subst h0
          by_cases h1 : x1 = y1
          · subst h1
            by_cases h2 : x2 = y2
            · subst h2
              have h3 : (x3 == y3) = false := beq_eq_false_iff_ne.2 (fun e => htu (by rw [e]))
              clear htu
              go_wp2
              go_quiet (fail)
              go_wp2
              go_ret
              exact FIN.out _ rfl _ _ rfl
            · have h2' : (x2 == y2) = false := beq_eq_false_iff_ne.2 h2
              clear htu h2
              go_wp2
              go_quiet (fail)
              go_wp2
              go_ret
              exact FIN.out _ rfl _ _ rfl
          · have h1' : (x1 == y1) = false := beq_eq_false_iff_ne.2 h1
            clear htu h1
            go_wp2
            go_quiet (fail)
            go_wp2
            go_ret
            exact FIN.out _ rfl _ _ rfl
        · have h0' : (x0.toList == y0.toList) = false := beq_eq_false_iff_ne.2 (fun e => h0 (list_eq e))
          clear htu h0
          go_wp2
          go_quiet (fail)
          go_wp2
          go_ret
          exact FIN.out _ rfl _ _ rfl
    · have hd : decide ((j : Int) < (n : Int)) = false := decide_eq_false (by omega)
      have HF := Lib.hid (show sameP x x a b = true from sameP_iff.2 ⟨rfl, List.ext_getElem? fun i => by
        by_cases hi : i < j
        · exact HE.out i hi
        · rw [List.getElem?_eq_none (by rw [HL.out]; omega), List.getElem?_eq_none (by rw [HM.out]; omega)]⟩)
      go_wp2
      go_ret
      exact ⟨ret_bool HF.out.symm, hbw⟩
end Go.Proofs.YtnnamhomapagiaaGreatDoor
