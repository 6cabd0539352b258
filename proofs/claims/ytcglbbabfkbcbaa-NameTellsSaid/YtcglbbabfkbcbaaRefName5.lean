/-
  sedimentref1.Name.
-/
import Derived.Test.YtcglbbabfkbcbaaName
namespace Go.Proofs.Ytcglbbabfkbcbaa
open Go.RowKit

set_option maxHeartbeats 2000000 in
theorem refName_any (s : ByteArray) (w : World) (hs : s.size ≤ maxLen) :
    Calls Try.prog 6 #[.string s] w fun e w' => e = .returned (.bool (validB s.toList)) ∧ w = w' := by
  unfold maxLen at hs
  by_cases h1 : s.size < 1
  · have HF := Lib.hid (valid_short s (.inl h1))
    go_enter Try.func6, Try.ntmps6
    go_wp2
    go_ret
    exact ⟨ret_bool HF.out.symm, rfl⟩
  by_cases h2 : 15 < s.size
  · have HF := Lib.hid (valid_short s (.inr h2))
    go_enter Try.func6, Try.ntmps6
    go_wp2
    go_ret
    exact ⟨ret_bool HF.out.symm, rfl⟩
  go_enter Try.func6, Try.ntmps6
  go_wp2
  go_loop [3, 4] (fun i _ => ∃ j : Nat, j ≤ s.size ∧ i = .int .i64 j ∧ lettersB (s.toList.take j) = true) (fun i _ => s.size - (intOf i).toNat)
  case atStart => exact ⟨0, Nat.zero_le _, rfl, rfl⟩
  case round =>
    obtain ⟨j, hj, rfl, hpre⟩ := hrel
    have HP := Lib.hid hpre
    clear hpre
    by_cases hjs : j < s.size
    · have hnext := Lib.hid (letters_next s j hjs)
      have hu : s[j].toNat ≤ 255 := by have := s[j].toNat_lt; omega
      have HNO := Lib.hid (fun hb => valid_not s (letters_not s j hjs hb))
      have HYES := Lib.hid (fun hb : letterB s[j].toNat = true => show lettersB (s.toList.take (j + 1)) = true from by rw [hnext.out, HP.out, hb]; rfl)
      by_cases a : 97 ≤ (s[j].toNat : Int) <;> by_cases b : (s[j].toNat : Int) ≤ 122 <;> by_cases d : 48 ≤ (s[j].toNat : Int) <;> by_cases f : (s[j].toNat : Int) ≤ 57 <;> by_cases g : (s[j].toNat : Int) = 46 <;> by_cases i : (s[j].toNat : Int) = 95 <;> by_cases k : (s[j].toNat : Int) = 45 <;> try omega
      all_goals
        first
          | (have HL := Lib.hid (HYES.out (letter_yes (by omega)))
             clear HYES HNO
             go_wp2
             go_round
             case rel => exact ⟨j + 1, by omega, by go_num, HL.out⟩
             case measure => simp [intOf]; omega)
          | (have HL := Lib.hid (HNO.out (letter_no (by omega)))
             clear HYES HNO
             have g' : ((s[j].toNat : Int) == 46) = false := beq_eq_false_iff_ne.2 (by omega)
             have i' : ((s[j].toNat : Int) == 95) = false := beq_eq_false_iff_ne.2 (by omega)
             have k' : ((s[j].toNat : Int) == 45) = false := beq_eq_false_iff_ne.2 (by omega)
             clear g i k
             go_wp2
             go_ret
             exact ⟨ret_bool HL.out.symm, rfl⟩)
    · have HV := Lib.hid (show validB s.toList = true from valid_is s (by omega) (by omega) (by rw [← HP.out, List.take_of_length_le (by rw [len_toList]; omega)]))
      go_wp2
      go_ret
      exact ⟨ret_bool HV.out.symm, rfl⟩
end Go.Proofs.Ytcglbbabfkbcbaa
