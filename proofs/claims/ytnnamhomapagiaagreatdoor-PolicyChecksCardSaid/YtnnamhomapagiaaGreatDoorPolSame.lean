/-
  slices.Equal at tiers; policy.Same.
-/
import Derived.Test.YtnnamhomapagiaaGreatDoorPolP
import Derived.Test.YtnnamhomapagiaaGreatDoorPlain5
import Derived.Deep.QuietTactic
import Derived.BigQuiet
import Derived.IntWalk
namespace Go.Proofs.YtnnamhomapagiaaGreatDoor
open Go.ChangeShapes Go.WideShapes Go.ChangeAt Go.RowKit Go.Deep

def tiE (x y : Ti) : Bool := decide (x.nm = y.nm) && (decide (x.ev = y.ev) && (decide (x.kp = y.kp) && decide (x.sh = y.sh)))
theorem tiE_iff {x y : Ti} : tiE x y = true ↔ x = y := by
  obtain ⟨a, b, c, d⟩ := x
  obtain ⟨e, f, g, h⟩ := y
  simp [tiE]
def sameTs : List Ti → List Ti → Bool
  | [], [] => true
  | x :: r, y :: q => tiE x y && sameTs r q
  | _, _ => false
theorem sameTs_iff : ∀ {a b : List Ti}, sameTs a b = true ↔ a = b
  | [], [] => by simp [sameTs]
  | [], y :: q => by simp [sameTs]
  | x :: r, [] => by simp [sameTs]
  | x :: r, y :: q => by simp [sameTs, tiE_iff, sameTs_iff (a := r) (b := q)]
theorem sameTs_no {a b : List Ti} (h : a ≠ b) : sameTs a b = false := by
  cases hh : sameTs a b
  · rfl
  · exact absurd (sameTs_iff.1 hh) h
theorem sameTs_symm (a b : List Ti) : sameTs a b = sameTs b a := by
  rw [Bool.eq_iff_iff, sameTs_iff, sameTs_iff]; exact eq_comm
set_option maxRecDepth 100000 in
set_option maxHeartbeats 2000000 in
theorem equalT_any (A B : Option Addr) (n m c d : Nat) (a b : List Ti) (w : World) (hA : Tis w A n a) (hB : Tis w B m b) : Calls Tryz.prog 30 #[.slice A n c, .slice B m d] w fun e w' => e = .returned (.bool (sameTs a b)) ∧ ∃ q, w' = w.drewN q := by
  have hn := hA.n_le
  unfold maxLen at hn
  have HL := Lib.hid hA.len
  have HM := Lib.hid hB.len
  by_cases hnm : n = m
  · subst hnm
    go_enter Tryz.func30, Tryz.ntmps30
    go_wp2
    obtain ⟨w6, hw6⟩ : ∃ w6, w6 = w := ⟨_, rfl⟩
    subst hw6
    go_loopw [5, 13] (fun _ i wr => ∃ j : Nat, j ≤ n ∧ i = .int .i64 j ∧ Below w6.heap.size w6 wr ∧ Hid (∃ q, wr = w6.drewN q) ∧ Hid (∀ i, i < j → a[i]? = b[i]?)) (fun _ i _ => n - (intOf i).toNat)
    case atStart => exact ⟨0, Nat.zero_le _, rfl, Below.refl _ _, Lib.hid ⟨0, rfl⟩, Lib.hid (fun i hi => absurd hi (by omega))⟩
    case round =>
      obtain ⟨j, hj, rfl, hbel, HQ, HE⟩ := hrel
      by_cases hlt : j < n
      · have K : j < a.length := by rw [HL.out]; exact hlt
        have K2 : j < b.length := by rw [HM.out]; exact hlt
        obtain ⟨g1, o1, rfl, hb, X⟩ := (hA.below hbel).get K
        obtain ⟨r0, r1, r2, r3⟩ := X
        obtain ⟨g2, o2, rfl, hb2, Y⟩ := (hB.below hbel).get K2
        obtain ⟨s0, s1, s2, s3⟩ := Y
        have HX := Lib.hid (show a[j]? = some (a[j]'K) from List.getElem?_eq_getElem K)
        have HY := Lib.hid (show b[j]? = some (b[j]'K2) from List.getElem?_eq_getElem K2)
        generalize a[j]'K = x at *
        generalize b[j]'K2 = y at *
        have g0 : (0 : Int) ≤ (j : Int) := by omega
        have g1 : (j : Int) < (n : Int) := by omega
        by_cases hxy : x = y
        · have HN := Lib.hid (show ∀ i, i < j + 1 → a[i]? = b[i]? from fun i hi => by
            by_cases e : i = j
            · rw [e, HX.out, HY.out, hxy]
            · exact HE.out i (by omega))
          subst hxy
          go_wp2
          go_quiet (fail)
          go_wp2
          go_roundw
          case rel => exact ⟨j + 1, by omega, by go_num, below_drewN hbel _, Lib.hid (by obtain ⟨q, hq⟩ := HQ.out; exact ⟨q + nq, by rw [hq, World.drewN_drewN]⟩), HN⟩
          case measure => simp [intOf]; omega
        · have HF := Lib.hid (show sameTs a b = false from sameTs_no (fun e => hxy (by have := HX.out; rw [e, HY.out] at this; injection this with this; exact this.symm)))
          have fin : ∀ v, v = Value.bool false → ∀ W q, W = wr.drewN q → Ending.returned v = .returned (.bool (sameTs a b)) ∧ ∃ q, W = w6.drewN q := by
            rintro v rfl W q rfl
            exact ⟨ret_bool HF.out.symm, by obtain ⟨q', hq⟩ := HQ.out; exact ⟨q' + q, by rw [hq, World.drewN_drewN]⟩⟩
          have FIN := Lib.hid fin
          clear fin HF HE HQ hA hB
          obtain ⟨x0, x1, x2, x3⟩ := x
          obtain ⟨y0, y1, y2, y3⟩ := y
          simp only at r0 r1 r2 r3 s0 s1 s2 s3
          by_cases h0 : x0 = y0
          · subst h0
            by_cases h1 : x1 = y1
            · subst h1
              by_cases h2 : x2 = y2
              · subst h2
                have h3 : (x3 == y3) = false := beq_eq_false_iff_ne.2 (fun e => hxy (by rw [e]))
                clear hxy
                go_wp2
                go_quiet (fail)
                go_wp2
                go_ret
                exact FIN.out _ rfl _ _ rfl
              · have h2' : (x2 == y2) = false := beq_eq_false_iff_ne.2 h2
                clear hxy h2
                go_wp2
                go_quiet (fail)
                go_wp2
                go_ret
                exact FIN.out _ rfl _ _ rfl
            · have h1' : (x1 == y1) = false := beq_eq_false_iff_ne.2 h1
              clear hxy h1
              go_wp2
              go_quiet (fail)
              go_wp2
              go_ret
              exact FIN.out _ rfl _ _ rfl
          · have h0' : (x0.toList == y0.toList) = false := beq_eq_false_iff_ne.2 (fun e => h0 (by
              rw [ByteArray.toList_eq, ByteArray.toList_eq] at e
              exact ByteArray.ext (Array.ext' e)))
            clear hxy h0
            go_wp2
            go_quiet (fail)
            go_wp2
            go_ret
            exact FIN.out _ rfl _ _ rfl
      · have hd : decide ((j : Int) < (n : Int)) = false := decide_eq_false (by omega)
        have HF := Lib.hid (show sameTs a b = true from sameTs_iff.2 (List.ext_getElem? fun i => by
          by_cases hi : i < j
          · exact HE.out i hi
          · rw [List.getElem?_eq_none (by rw [HL.out]; omega), List.getElem?_eq_none (by rw [HM.out]; omega)]))
        go_wp2
        go_ret
        exact ⟨ret_bool HF.out.symm, HQ.out⟩
  · have HF := Lib.hid (show sameTs a b = false from sameTs_no (fun e => hnm (by rw [← HL.out, ← HM.out, e])))
    have hnm' : ¬ (n : Int) = (m : Int) := by omega
    go_enter Tryz.func30, Tryz.ntmps30
    go_wp2
    go_ret
    exact ⟨ret_bool HF.out.symm, 0, rfl⟩
def sameP (x y : ByteArray) (a b : List Ti) : Bool := decide (x = y) && sameTs a b
theorem sameP_iff {x y : ByteArray} {a b : List Ti} : sameP x y a b = true ↔ x = y ∧ a = b := by unfold sameP; rw [Bool.and_eq_true, decide_eq_true_eq, sameTs_iff]
theorem list_eq {x y : ByteArray} (h : x.toList = y.toList) : x = y := by
  rw [ByteArray.toList_eq, ByteArray.toList_eq] at h
  exact ByteArray.ext (Array.ext' h)
set_option maxRecDepth 100000 in
set_option maxHeartbeats 2000000 in
theorem same_any (x y : ByteArray) (A B : Option Addr) (n m c d : Nat) (a b : List Ti) (w : World) (hA : Tis w A n a) (hB : Tis w B m b) : Calls Tryz.prog 13 #[polV x A n c, polV y B m d] w fun e w' => e = .returned (.bool (sameP x y a b)) ∧ Below w.heap.size w w' := by
  have hb : Below w.heap.size w ((w.alloc (.cells #[.string x, .slice A n c] 24)).alloc (.cells #[.string y, .slice B m d] 24)) := ((Below.refl _ _).alloc (Nat.le_refl _) _).alloc (by simp) _
  have HE := Lib.hid (fun q => equalT_any A B n m c d a b _ ((hA.below hb).below (below_drewN (Below.refl _ _) q)) ((hB.below hb).below (below_drewN (Below.refl _ _) q)))
  clear hA hB
  by_cases h : x = y
  · subst h
    have HF := Lib.hid (show sameP x x a b = sameTs a b from by unfold sameP; rw [decide_eq_true rfl]; rfl)
    go_enter Tryz.func13, Tryz.ntmps13
    go_wp2_with (go_at_call 30; refine (HE.out 0).mono ?_; rintro e w1 ⟨rfl, q, rfl⟩)
    go_ret
    exact ⟨ret_bool HF.out.symm, below_drewN hb _⟩
  · have HF := Lib.hid (show sameP x y a b = false from by unfold sameP; rw [decide_eq_false h]; rfl)
    have h0 : (x.toList == y.toList) = false := beq_eq_false_iff_ne.2 (fun e => h (list_eq e))
    clear h
    go_enter Tryz.func13, Tryz.ntmps13
    go_wp2_with fail
    go_ret
    exact ⟨ret_bool HF.out.symm, hb⟩
end Go.Proofs.YtnnamhomapagiaaGreatDoor
