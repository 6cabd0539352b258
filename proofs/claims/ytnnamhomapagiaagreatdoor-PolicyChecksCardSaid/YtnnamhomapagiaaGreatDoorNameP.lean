/-
  The walks over the package name: what each of its functions answers.
-/
import Derived.Test.YtnnamhomapagiaaGreatDoorRows
import Derived.Test.YtnnamhomapagiaaGreatDoorPlain5
import Derived.WalkKit
import Derived.WalkSpells
import Derived.WalkLawsBesides
import Derived.Lib.Hide
import Derived.Outline
import Derived.BigQuiet
import Derived.Deep.QuietTactic
import Derived.Deep.RegionHeld3
namespace Go.Proofs.YtnnamhomapagiaaGreatDoor
open Go.RowKit

set_option maxHeartbeats 400000 in
theorem letter_any (c : Int) (w : World) (h0 : 0 ≤ c) (h1 : c ≤ 255) :
    Calls Tryz.prog 69 #[.int .u8 c] w fun e w' => e = .returned (.bool (letterB c)) ∧ w = w' := by
  by_cases a : 97 ≤ c <;> by_cases b : c ≤ 122 <;> by_cases d : 48 ≤ c <;> by_cases f : c ≤ 57 <;> by_cases g : c = 46 <;> by_cases i : c = 95 <;> by_cases j : c = 45 <;> try omega
  all_goals
    go_enter Tryz.func69, Tryz.ntmps69
    go_wp2
    go_ret
    first
      | exact ⟨by rw [letter_yes (by omega)]; rfl, rfl⟩
      | exact ⟨ret_bool (by rw [letter_no (by omega)]; simp; omega), rfl⟩

set_option maxHeartbeats 1000000 in
theorem valid_any (A : Option Addr) (n c : Nat) (ss : List ByteArray) (w : World) (hn : n ≤ maxLen) (hl : ss.length = n) (hs : ∀ s ∈ ss, s.size ≤ maxLen)
    (hr : 0 < n → ∃ b off, A = some ⟨b, off, none⟩ ∧ ∀ i (h : i < ss.length), w.cell? ⟨b, off + i, none⟩ = some (.string ss[i])) :
    Calls Tryz.prog 19 #[.slice A n c] w fun e w' => e = .returned (.bool (ss.all fun s => validB s.toList)) ∧ w = w' := by
  unfold maxLen at hn hs
  go_enter Tryz.func19, Tryz.ntmps19
  go_wp2
  go_loop [8] (fun i => ∃ k : Nat, k ≤ n ∧ i = .int .i64 k ∧ ((ss.take k).all fun s => validB s.toList) = true) (fun i => n - (intOf i).toNat)
  case atStart => exact ⟨0, Nat.zero_le _, rfl, rfl⟩
  case round =>
    obtain ⟨k, hk, rfl, hall⟩ := hrel
    have HA := Lib.hid hall
    clear hall
    by_cases hlt : k < n
    · obtain ⟨b, off, rfl, hc⟩ := hr (by omega)
      have hcell := hc k (by omega)
      have hsz := hs ss[k] (List.getElem_mem _)
      have hts : Hid (ss.take (k + 1) = ss.take k ++ [ss[k]]) := List.take_succ_eq_append_getElem (by omega)
      clear hc hs
      have hmem : ss[k] ∈ ss := List.getElem_mem _
      generalize ss[k]'(by omega) = s at *
      by_cases h1 : s.size < 1
      · have hf := all_not (fun s : ByteArray => validB s.toList) ss s hmem (valid_short s (.inl h1))
        have HF := Lib.hid hf
        clear hf
        go_wp2
        go_ret
        exact ⟨ret_bool HF.out.symm, rfl⟩
      · by_cases h2 : 15 < s.size
        · have hf := all_not (fun s : ByteArray => validB s.toList) ss s hmem (valid_short s (.inr h2))
          have HF := Lib.hid hf
          clear hf
          go_wp2
          go_ret
          exact ⟨ret_bool HF.out.symm, rfl⟩
        · go_wp2
          go_loop [22] (fun i => ∃ j : Nat, j ≤ s.size ∧ i = .int .i64 j ∧ lettersB (s.toList.take j) = true) (fun i => s.size - (intOf i).toNat)
          case atStart => exact ⟨0, Nat.zero_le _, rfl, rfl⟩
          case round =>
            obtain ⟨j, hj, rfl, hpre⟩ := hrel
            have HP := Lib.hid hpre
            clear hpre
            by_cases hjs : j < s.size
            · have hnext := Lib.hid (letters_next s j hjs)
              have hu : s[j].toNat ≤ 255 := by have := s[j].toNat_lt; omega
              cases hb : letterB s[j].toNat
              · have HF := Lib.hid (all_not (fun s : ByteArray => validB s.toList) ss s hmem (valid_not s (letters_not s j hjs hb)))
                go_wp2_with (go_at_call 69; refine (letter_any _ _ (by omega) (by omega)).mono ?_; rintro e w' ⟨rfl, rfl⟩)
                go_ret
                exact ⟨ret_bool HF.out.symm, rfl⟩
              · have HN : Hid (lettersB (s.toList.take (j + 1)) = true) := by rw [hnext.out, HP.out, hb]; rfl
                go_wp2_with (go_at_call 69; refine (letter_any _ _ (by omega) (by omega)).mono ?_; rintro e w' ⟨rfl, rfl⟩)
                go_round
                case rel => exact ⟨j + 1, by omega, by go_num, HN.out⟩
                case measure => simp [intOf]; omega
            · have HV : Hid (validB s.toList = true) := valid_is s (by omega) (by omega) (by rw [← HP.out, List.take_of_length_le (by rw [len_toList]; omega)])
              go_wp2
              go_round
              case rel => exact ⟨k + 1, by omega, by go_num, all_next (fun s : ByteArray => validB s.toList) ss k s hts.out HA.out HV.out⟩
              case measure => simp [intOf]; omega
    · go_wp2
      go_ret
      exact ⟨ret_bool (by rw [← HA.out, List.take_of_length_le (by omega)]), rfl⟩
end Go.Proofs.YtnnamhomapagiaaGreatDoor
