/-
  The walks over the package name: what each of its functions answers.
-/
import Derived.Test.YtdlmipoeeiaapaaRows
import Derived.Test.YtdlmipoeeiaapaaOrder
import Derived.WalkKit
import Derived.WalkSpells
import Derived.WalkLawsBesides
import Derived.Lib.Hide
import Derived.Outline
import Derived.BigQuiet
import Derived.Deep.QuietTactic
import Derived.Deep.RegionHeld3
namespace Go.Proofs.Ytdlmipoeeiaapaa
open Go.RowKit

set_option maxHeartbeats 400000 in
theorem hash_any (s : ByteArray) (w : World) (hs : s.size ≤ maxLen) :
    Calls Try.prog 60 #[.string s] w fun e w' => e = .returned (.int .u32 (hash s.toList)) ∧ w = w' := by
  unfold maxLen at hs
  go_enter Try.func60, Try.ntmps60
  go_wp2
  go_loop [3, 7] (fun x i => ∃ k : Nat, k ≤ s.size ∧ i = .int .i64 k ∧ x = .int .u32 (hash (s.toList.take k))) (fun _ i => s.size - (intOf i).toNat)
  case atStart => exact ⟨0, Nat.zero_le _, rfl, rfl⟩
  case round =>
    obtain ⟨k, hk, rfl, rfl⟩ := hrel
    by_cases hlt : k < s.size
    · have HS : Hid (hash (s.toList.take (k + 1)) = hstep (hash (s.toList.take k)) s[k]) := by rw [take_snoc s k hlt]; exact hash_snoc _ _
      go_wp2
      go_round
      case rel => exact ⟨k + 1, by omega, by go_num, by rw [HS.out]; rfl⟩
      case measure => simp [intOf]; omega
    · go_wp2
      go_ret
      exact ⟨by rw [List.take_of_length_le (by rw [len_toList]; omega)]; rfl, rfl⟩

set_option maxHeartbeats 400000 in
theorem shard_any (s : ByteArray) (n : Int) (w : World) (hs : s.size ≤ maxLen) :
    Calls Try.prog 43 #[.string s, .int .i64 n] w fun e w' => e = .returned (.int .i64 (shardI s.toList n)) ∧ w = w' := by
  have hb := hash_bd s.toList
  by_cases h : n < 1
  · have hf : Hid (shardI s.toList n = 0) := if_pos h
    go_enter Try.func43, Try.ntmps43
    go_wp2
    go_ret
    exact ⟨by rw [hf.out]; rfl, rfl⟩
  · have hf : Hid (shardI s.toList n = hash s.toList % n) := if_neg h
    go_enter Try.func43, Try.ntmps43
    go_wp2_with (go_at_call 60; refine (hash_any _ _ hs).mono ?_; rintro e w' ⟨rfl, rfl⟩)
    go_ret
    exact ⟨by rw [hf.out]; rfl, rfl⟩

set_option maxHeartbeats 400000 in
theorem letter_any (c : Int) (w : World) (h0 : 0 ≤ c) (h1 : c ≤ 255) :
    Calls Try.prog 66 #[.int .u8 c] w fun e w' => e = .returned (.bool (letterB c)) ∧ w = w' := by
  by_cases a : 97 ≤ c <;> by_cases b : c ≤ 122 <;> by_cases d : 48 ≤ c <;> by_cases f : c ≤ 57 <;> by_cases g : c = 46 <;> by_cases i : c = 95 <;> by_cases j : c = 45 <;> try omega
  all_goals
    go_enter Try.func66, Try.ntmps66
    go_wp2
    go_ret
    first
      | exact ⟨by rw [letter_yes (by omega)]; rfl, rfl⟩
      | exact ⟨ret_bool (by rw [letter_no (by omega)]; simp; omega), rfl⟩

set_option maxHeartbeats 400000 in
theorem isNaN_s (a : ByteArray) (w : World) :
    Calls Try.prog 77 #[.string a] w fun e w' => e = .returned (.bool false) ∧ w = w' := by
  go_enter Try.func77, Try.ntmps77
  go_wp2
  go_ret
  exact ⟨by simp, rfl⟩
set_option maxHeartbeats 400000 in
theorem isNaN_i (a : Int) (w : World) :
    Calls Try.prog 78 #[.int .i64 a] w fun e w' => e = .returned (.bool false) ∧ w = w' := by
  go_enter Try.func78, Try.ntmps78
  go_wp2
  go_ret
  exact ⟨by simp, rfl⟩
set_option maxHeartbeats 400000 in
theorem cmpS_any (a b : ByteArray) (w : World) :
    Calls Try.prog 55 #[.string a, .string b] w fun e w' => e = .returned (.int .i64 (cmpS a.toList b.toList)) ∧ w = w' := by
  go_enter Try.func55, Try.ntmps55
  go_wp2_with (go_at_call 77; refine (isNaN_s _ _).mono ?_; rintro e w' ⟨rfl, rfl⟩)
  all_goals
    go_ret
    exact ⟨ret_int (by simp [cmpS, *]), rfl⟩
set_option maxHeartbeats 400000 in
theorem cmpI_any (a b : Int) (w : World) :
    Calls Try.prog 56 #[.int .i64 a, .int .i64 b] w fun e w' => e = .returned (.int .i64 (cmpI a b)) ∧ w = w' := by
  go_enter Try.func56, Try.ntmps56
  go_wp2_with (go_at_call 78; refine (isNaN_i _ _).mono ?_; rintro e w' ⟨rfl, rfl⟩)
  all_goals
    go_ret
    exact ⟨ret_int (by unfold cmpI; first | rw [if_pos (by assumption)] | rw [if_neg (by omega), if_pos (by assumption)] | rw [if_neg (by omega), if_neg (by omega)]), rfl⟩

/-- cmp.Or of two numbers. -/
def orI (a b : Int) : Int := if a = 0 then b else a
set_option maxHeartbeats 400000 in
theorem or_any (a b : Int) (g : Nat) (w : World) (h0 : w.cell? ⟨g, 0, none⟩ = some (.int .i64 a)) (h1 : w.cell? ⟨g, 1, none⟩ = some (.int .i64 b)) :
    Calls Try.prog 54 #[.slice (some ⟨g, 0, none⟩) 2 2] w fun e w' => e = .returned (.int .i64 (orI a b)) ∧ w = w' := by
  go_enter Try.func54, Try.ntmps54
  go_wp2
  refine wp_loop_rounds 3 ?_
  rw [rounds_succ]
  go_wp2
  all_goals try (rw [rounds_succ]; go_wp2)
  all_goals try (rw [rounds_succ]; go_wp2)
  all_goals
    go_ret
    exact ⟨ret_int (by simp [orI]; simp_all), rfl⟩

set_option maxHeartbeats 1000000 in
theorem compare_any (a b : ByteArray) (x y : Int) (r s t u v r' s' t' u' v' : Value) (w : World) :
    Calls Try.prog 34 #[.agg #[.string a, .int .i64 x, r, s, t, u, v], .agg #[.string b, .int .i64 y, r', s', t', u', v']] w fun e w' => e = .returned (.int .i64 (cmpR a.toList x b.toList y)) ∧ Below w.heap.size w w' := by
  go_enter Try.func34, Try.ntmps34
  go_wp2
  go_region_held3 (fun w' => w'.cell? ⟨w.heap.size, 0, none⟩ = some (.string a) ∧ w'.cell? ⟨w.heap.size, 1, none⟩ = some (.int .i64 x) ∧ w'.cell? ⟨w.heap.size + 1, 0, none⟩ = some (.string b) ∧ w'.cell? ⟨w.heap.size + 1, 1, none⟩ = some (.int .i64 y))
    (first | assumption | (simp [go_sem, World.cell?_alloc_past]))
    (first
      | (go_at_call 55; refine (cmpS_any _ _ _).mono ?_; rintro e w' ⟨rfl, rfl⟩)
      | (go_at_call 56; refine (cmpI_any _ _ _).mono ?_; rintro e w' ⟨rfl, rfl⟩)
      | (go_at_call 54; refine (or_any (cmpS a.toList b.toList) (cmpI x y) _ _ (by simp [go_sem]) (by simp [go_sem])).mono ?_; rintro e w' ⟨rfl, rfl⟩))
  go_wp2
  go_ret
  exact ⟨rfl, by repeat (first | exact Below.refl _ _ | refine Below.drew ?_ | refine Below.alloc ?_ (by simp; try omega) _)⟩

set_option maxHeartbeats 1000000 in
theorem valid_any (A : Option Addr) (n c : Nat) (ss : List ByteArray) (w : World) (hn : n ≤ maxLen) (hl : ss.length = n) (hs : ∀ s ∈ ss, s.size ≤ maxLen)
    (hr : 0 < n → ∃ b off, A = some ⟨b, off, none⟩ ∧ ∀ i (h : i < ss.length), w.cell? ⟨b, off + i, none⟩ = some (.string ss[i])) :
    Calls Try.prog 49 #[.slice A n c] w fun e w' => e = .returned (.bool (ss.all fun s => validB s.toList)) ∧ w = w' := by
  unfold maxLen at hn hs
  go_enter Try.func49, Try.ntmps49
  go_wp2
  go_loop [8] (fun i => ∃ k : Nat, k ≤ n ∧ i = .int .i64 k ∧ ((ss.take k).all fun s => validB s.toList) = true) (fun i => n - (intOf i).toNat)
  case atStart => exact ⟨0, Nat.zero_le _, rfl, rfl⟩
  case round =>
    obtain ⟨k, hk, rfl, hall⟩ := hrel
    have HA := Lib.hid hall
    clear hall
    by_cases hlt : k < n
    · obtain ⟨b, off, rfl, hc⟩ := hr (by omega)
      have hcell := hc k (by omega)
      have hsz := hs ss[k] (List.getElem_mem _)
      have hts : Hid (ss.take (k + 1) = ss.take k ++ [ss[k]]) := List.take_succ_eq_append_getElem (by omega)
      clear hc hs
      have hmem : ss[k] ∈ ss := List.getElem_mem _
      generalize ss[k]'(by omega) = s at *
      by_cases h1 : s.size < 1
      · have hf := all_not (fun s : ByteArray => validB s.toList) ss s hmem (valid_short s (.inl h1))
        have HF := Lib.hid hf
        clear hf
        go_wp2
        go_ret
        exact ⟨ret_bool HF.out.symm, rfl⟩
      · by_cases h2 : 15 < s.size
        · have hf := all_not (fun s : ByteArray => validB s.toList) ss s hmem (valid_short s (.inr h2))
          have HF := Lib.hid hf
          clear hf
          go_wp2
          go_ret
          exact ⟨ret_bool HF.out.symm, rfl⟩
        · go_wp2
          go_loop [22] (fun i => ∃ j : Nat, j ≤ s.size ∧ i = .int .i64 j ∧ lettersB (s.toList.take j) = true) (fun i => s.size - (intOf i).toNat)
          case atStart => exact ⟨0, Nat.zero_le _, rfl, rfl⟩
          case round =>
            obtain ⟨j, hj, rfl, hpre⟩ := hrel
            have HP := Lib.hid hpre
            clear hpre
            by_cases hjs : j < s.size
            · have hnext := Lib.hid (letters_next s j hjs)
              have hu : s[j].toNat ≤ 255 := by have := s[j].toNat_lt; omega
              cases hb : letterB s[j].toNat
              · have HF := Lib.hid (all_not (fun s : ByteArray => validB s.toList) ss s hmem (valid_not s (letters_not s j hjs hb)))
                go_wp2_with (go_at_call 66; refine (letter_any _ _ (by omega) (by omega)).mono ?_; rintro e w' ⟨rfl, rfl⟩)
                go_ret
                exact ⟨ret_bool HF.out.symm, rfl⟩
              · have HN : Hid (lettersB (s.toList.take (j + 1)) = true) := by rw [hnext.out, HP.out, hb]; rfl
                go_wp2_with (go_at_call 66; refine (letter_any _ _ (by omega) (by omega)).mono ?_; rintro e w' ⟨rfl, rfl⟩)
                go_round
                case rel => exact ⟨j + 1, by omega, by go_num, HN.out⟩
                case measure => simp [intOf]; omega
            · have HV : Hid (validB s.toList = true) := valid_is s (by omega) (by omega) (by rw [← HP.out, List.take_of_length_le (by rw [len_toList]; omega)])
              go_wp2
              go_round
              case rel => exact ⟨k + 1, by omega, by go_num, all_next (fun s : ByteArray => validB s.toList) ss k s hts.out HA.out HV.out⟩
              case measure => simp [intOf]; omega
    · go_wp2
      go_ret
      exact ⟨ret_bool (by rw [← HA.out, List.take_of_length_le (by omega)]), rfl⟩
end Go.Proofs.Ytdlmipoeeiaapaa
