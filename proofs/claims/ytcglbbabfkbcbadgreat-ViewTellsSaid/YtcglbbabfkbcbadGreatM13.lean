/-
  Several texts in one: RefOne, RefName, SlCut.
-/
import Derived.Test.YtcglbbabfkbcbadGreatM12
import Derived.Test.YtcglbbabfkbcbadGreatRefReach
import Derived.Test.YtcglbbabfkbcbadGreatM4
import Derived.Test.YtcglbbabfkbcbadGreatM1
import Derived.Below
import Derived.Laws.Slices
/- The document's own Less, On, One. -/
namespace Go.Proofs.YtcglbbabfkbcbadGreat
open Go.RowKit Go.Deep

theorem list_eq' {x y : ByteArray} (h : x.toList = y.toList) : x = y := by
  rw [ByteArray.toList_eq, ByteArray.toList_eq] at h
  exact ByteArray.ext (Array.ext' h)
set_option maxRecDepth 100000 in
set_option maxHeartbeats 1000000 in
theorem refLess_any (a b : ByteArray) (x y : Int) (r s t u v r' s' t' u' v' : Value) (w : World) :
    Calls Tryz.prog 85 #[.agg #[.string a, .int .i64 x, r, s, t, u, v], .agg #[.string b, .int .i64 y, r', s', t', u', v']] w fun e w' => e = .returned (.bool (aheadB a.toList x b.toList y)) ∧ Below w.heap.size w w' := by
  have hb : Below w.heap.size w ((w.alloc (.cells #[.string a, .int .i64 x, r, s, t, u, v] 61)).alloc (.cells #[.string b, .int .i64 y, r', s', t', u', v'] 61)) := ((Below.refl _ _).alloc (Nat.le_refl _) _).alloc (by simp) _
  by_cases h1 : Op.bytesLess a.toList b.toList = true
  · have HF := Lib.hid (show aheadB a.toList x b.toList y = true from (aheadB_iff _ _ _ _).2 (.inl h1))
    go_enter Tryz.func85, Tryz.ntmps85
    go_wp2
    go_ret
    exact ⟨by rw [HF.out]; rfl, hb⟩
  · have h1' : Op.bytesLess a.toList b.toList = false := by simpa using h1
    by_cases h2 : a = b
    · subst h2
      have HF := Lib.hid (show aheadB a.toList x a.toList y = decide (x < y) from by
        rw [Bool.eq_iff_iff, aheadB_iff, decide_eq_true_eq]
        constructor
        · rintro (h | ⟨_, h⟩)
          · rw [h1'] at h; cases h
          · exact h
        · exact fun h => .inr ⟨rfl, h⟩)
      clear h1
      go_enter Tryz.func85, Tryz.ntmps85
      go_wp2
      go_ret
      exact ⟨by rw [HF.out]; rfl, hb⟩
    · have h3 : (a.toList == b.toList) = false := beq_eq_false_iff_ne.2 fun e => h2 (list_eq' e)
      have HF := Lib.hid (show aheadB a.toList x b.toList y = false from by
        cases hh : aheadB a.toList x b.toList y
        · rfl
        · rcases (aheadB_iff _ _ _ _).1 hh with h | ⟨h, _⟩
          · rw [h1'] at h; cases h
          · exact absurd (list_eq' h) h2)
      clear h1 h2
      go_enter Tryz.func85, Tryz.ntmps85
      go_wp2
      go_ret
      exact ⟨by rw [HF.out]; rfl, hb⟩

set_option maxHeartbeats 1000000 in
theorem refOn_any (t e : Int) (w : World) (h : 0 ≤ t ∧ t ≤ 9223372036854775807) (he : 1 ≤ e ∧ e ≤ 9223372036854775807) : Calls Tryz.prog 83 #[.int .i64 t, .int .i64 e] w fun x w' => x = .returned (.bool (decide (t % e = 0))) ∧ w = w' := by
  obtain ⟨h1, h2⟩ := h
  obtain ⟨e1, e2⟩ := he
  have hne : e ≠ 0 := by omega
  have HT := Lib.hid (tmod_pos h1 e)
  have hd : decide (1 ≤ e) = true := decide_eq_true e1
  go_enter Tryz.func83, Tryz.ntmps83
  go_wp2
  go_ret
  exact ⟨ret_bool (by first | rfl | (rw [HT.out]; rfl) | (rw [Bool.eq_iff_iff]; simp) | (rw [HT.out, Bool.eq_iff_iff]; simp)), rfl⟩
set_option maxHeartbeats 1000000 in
theorem refOne_any (v : Int) (w : World) (h : -9223372036854775808 ≤ v ∧ v ≤ 9223372036854775807) : Calls Tryz.prog 34 #[.int .i64 v] w fun e w' => e = .returned (oneG v).val ∧ Below w.heap.size w w' := by
  by_cases h0 : v < 0
  · have HF := Lib.hid (show oneG v = ⟨1, -1, IntKind.u64.wrap v, v, v⟩ from by unfold oneG; congr 1; omega)
    have hd : decide (v < 0) = true := decide_eq_true h0
    go_enter Tryz.func34, Tryz.ntmps34
    go_wp2
    exact bodyPost_ret (v := (⟨1, -1, IntKind.u64.wrap v, v, v⟩ : Ag).val) (by simp [results, Tryz.results34, go_sem]) rfl ⟨by rw [HF.out], by repeat (first | exact Below.refl _ _ | refine Below.setCell ?_ (by simp; try omega) _ | refine Below.alloc ?_ (by simp; try omega) _)⟩
  · have HF := Lib.hid (show oneG v = ⟨1, 0, IntKind.u64.wrap v, v, v⟩ from by unfold oneG; congr 1; omega)
    have hd : decide (v < 0) = false := decide_eq_false h0
    go_enter Tryz.func34, Tryz.ntmps34
    go_wp2
    exact bodyPost_ret (v := (⟨1, 0, IntKind.u64.wrap v, v, v⟩ : Ag).val) (by simp [results, Tryz.results34, go_sem]; rw [wrapU]; omega) rfl ⟨by rw [HF.out], by repeat (first | exact Below.refl _ _ | refine Below.setCell ?_ (by simp; try omega) _ | refine Below.alloc ?_ (by simp; try omega) _)⟩
end Go.Proofs.YtcglbbabfkbcbadGreat
/- sedimentref1.Name. -/
namespace Go.Proofs.YtcglbbabfkbcbadGreat
open Go.RowKit

set_option maxHeartbeats 2000000 in
theorem refName_any (s : ByteArray) (w : World) (hs : s.size ≤ maxLen) :
    Calls Tryz.prog 31 #[.string s] w fun e w' => e = .returned (.bool (validB s.toList)) ∧ w = w' := by
  unfold maxLen at hs
  by_cases h1 : s.size < 1
  · have HF := Lib.hid (valid_short s (.inl h1))
    go_enter Tryz.func31, Tryz.ntmps31
    go_wp2
    go_ret
    exact ⟨ret_bool HF.out.symm, rfl⟩
  by_cases h2 : 15 < s.size
  · have HF := Lib.hid (valid_short s (.inr h2))
    go_enter Tryz.func31, Tryz.ntmps31
    go_wp2
    go_ret
    exact ⟨ret_bool HF.out.symm, rfl⟩
  go_enter Tryz.func31, Tryz.ntmps31
  go_wp2
  go_loop [3, 4] (fun i _ => ∃ j : Nat, j ≤ s.size ∧ i = .int .i64 j ∧ lettersB (s.toList.take j) = true) (fun i _ => s.size - (intOf i).toNat)
  case atStart => exact ⟨0, Nat.zero_le _, rfl, rfl⟩
  case round =>
    obtain ⟨j, hj, rfl, hpre⟩ := hrel
    have HP := Lib.hid hpre
    clear hpre
    by_cases hjs : j < s.size
    · have hnext := Lib.hid (letters_next s j hjs)
      have hu : s[j].toNat ≤ 255 := by have := s[j].toNat_lt; omega
      have HNO := Lib.hid (fun hb => valid_not s (letters_not s j hjs hb))
      have HYES := Lib.hid (fun hb : letterB s[j].toNat = true => show lettersB (s.toList.take (j + 1)) = true from by rw [hnext.out, HP.out, hb]; rfl)
      by_cases a : 97 ≤ (s[j].toNat : Int) <;> by_cases b : (s[j].toNat : Int) ≤ 122 <;> by_cases d : 48 ≤ (s[j].toNat : Int) <;> by_cases f : (s[j].toNat : Int) ≤ 57 <;> by_cases g : (s[j].toNat : Int) = 46 <;> by_cases i : (s[j].toNat : Int) = 95 <;> by_cases k : (s[j].toNat : Int) = 45 <;> try omega
      all_goals
        first
          | (have HL := Lib.hid (HYES.out (letter_yes (by omega)))
             clear HYES HNO
             go_wp2
             go_round
             case rel => exact ⟨j + 1, by omega, by go_num, HL.out⟩
             case measure => simp [intOf]; omega)
          | (have HL := Lib.hid (HNO.out (letter_no (by omega)))
             clear HYES HNO
             have g' : ((s[j].toNat : Int) == 46) = false := beq_eq_false_iff_ne.2 (by omega)
             have i' : ((s[j].toNat : Int) == 95) = false := beq_eq_false_iff_ne.2 (by omega)
             have k' : ((s[j].toNat : Int) == 45) = false := beq_eq_false_iff_ne.2 (by omega)
             clear g i k
             go_wp2
             go_ret
             exact ⟨ret_bool HL.out.symm, rfl⟩)
    · have HV := Lib.hid (show validB s.toList = true from valid_is s (by omega) (by omega) (by rw [← HP.out, List.take_of_length_le (by rw [len_toList]; omega)]))
      go_wp2
      go_ret
      exact ⟨ret_bool HV.out.symm, rfl⟩
end Go.Proofs.YtcglbbabfkbcbadGreat
/- Parts of slices: 's[:t]', 's[t:]', whatever the slice. -/
namespace Go.Proofs.YtcglbbabfkbcbadGreat
open Go.RowKit

theorem addr_add_zero (a : Addr) : a.add 0 = a := by unfold Addr.add; simp
theorem addr_add_none (b off i : Nat) : (⟨b, off, none⟩ : Addr).add i = ⟨b, off + i, none⟩ := by
  unfold Addr.add
  split
  · next e => subst e; rfl
  · rfl
theorem Sl.takeC {w : World} {A : Option Addr} {xs : List Value} (h : Sl w A xs) (t : Nat) : Sl w A (xs.take t) := by
  refine ⟨fun hne => ?_⟩
  obtain ⟨b, off, e, hb, hc⟩ := h.at_ (fun e => hne (by rw [e]; simp))
  refine ⟨b, off, e, hb, fun j u hu => hc j u ?_⟩
  rw [List.getElem?_take] at hu
  split at hu
  · exact hu
  · cases hu
theorem Sl.dropC {w : World} {A : Option Addr} {xs : List Value} (h : Sl w A xs) (t : Nat) (p : Prop) [Decidable p] (hp : p → xs.length ≤ t) : Sl w (if p then A else A.map (·.add t)) (xs.drop t) := by
  refine ⟨fun hne => ?_⟩
  have hl : ¬ xs.length ≤ t := fun hl => hne (List.drop_eq_nil_of_le hl)
  rw [if_neg (fun hh => hl (hp hh))]
  obtain ⟨b, off, e, hb, hc⟩ := h.at_ (fun e => hne (by rw [e]; simp))
  subst e
  refine ⟨b, off + t, by simp [addr_add_none], hb, fun j u hu => ?_⟩
  rw [List.getElem?_drop] at hu
  rw [Nat.add_assoc]
  exact hc (t + j) u hu
theorem run_slice_to {P : Program} {T E : TypeId} {W : World} (ht : P.underlying T = some (.slice E)) (s : Nat) (hs : (sizeOf (P.elem T)).run P W = .ok s W) (A : Option Addr) (n c t : Nat) (h : t ≤ c) :
    (Instr.slice T (.slice A n c) none (some (.int .i64 t)) none).run P W = .ok (.slice A t c) W := by
  have he : P.underlying T = some (.slice (P.elem T)) := by rw [ht]; simp [Program.elem, ht]
  rw [run_slice_h W T A n c he .i64 (t : Int) (by omega) (by omega), hs]
  simp only [Result.andThen, sliced, Nat.zero_mul]
  congr 2
  · cases A with
    | none => simp
    | some a => simp [addr_add_zero]
theorem run_slice_from {P : Program} {T E : TypeId} {W : World} (ht : P.underlying T = some (.slice E)) (s : Nat) (hs : (sizeOf (P.elem T)).run P W = .ok s W) (A : Option Addr) (n c t : Nat) (h : t ≤ n) :
    (Instr.slice T (.slice A n c) (some (.int .i64 t)) none none).run P W = .ok (.slice (if c = t then A else A.map (·.add (t * s))) (n - t) (c - t)) W := by
  have he : P.underlying T = some (.slice (P.elem T)) := by rw [ht]; simp [Program.elem, ht]
  rw [run_slice_l W T A n c he .i64 (t : Int) (by omega) (by omega), hs]
  simp only [Result.andThen, sliced, Int.toNat_natCast]
end Go.Proofs.YtcglbbabfkbcbadGreat
