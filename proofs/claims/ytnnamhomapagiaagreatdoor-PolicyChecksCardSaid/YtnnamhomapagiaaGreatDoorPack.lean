/-
  pack.Number, pack.Digits.
-/
import Derived.Test.YtnnamhomapagiaaGreatDoorPolR
import Derived.Test.YtnnamhomapagiaaGreatDoorShelf
import Derived.WalkSpells
import Derived.WalkLawsBesides
import Derived.Lib.Hide
import Derived.Outline
import Derived.Deep.QuietTactic
import Derived.BigQuiet
import Derived.IntWalk
import Derived.Lib.AppendIntMem
namespace Go.Proofs.YtnnamhomapagiaaGreatDoor
open Go.RowKit

theorem ret_tup2 {a b c d : Value} (h : a = b) (k : c = d) : Ending.returned (.tuple #[a, c]) = .returned (.tuple #[b, d]) := by rw [h, k]
theorem dig_no {c : UInt8} (h : (c.toNat : Int) < 48 ∨ 57 < (c.toNat : Int)) : digB c = false := by
  unfold digB
  rcases h with h | h
  · rw [decide_eq_false (by omega)]; rfl
  · rw [decide_eq_false (show ¬ c.toNat ≤ 57 by omega)]; simp
theorem dig_yes {c : UInt8} (h1 : 48 ≤ (c.toNat : Int)) (h2 : (c.toNat : Int) ≤ 57) : digB c = true := by
  unfold digB
  rw [decide_eq_true (by omega), decide_eq_true (by omega)]; rfl
theorem all_dig_no {s : ByteArray} {k : Nat} (h : k < s.size) (hb : digB s[k] = false) : s.toList.all digB = false := by
  cases hh : s.toList.all digB
  · rfl
  · rw [List.all_eq_true] at hh
    have := hh _ (List.mem_of_getElem? (get_toList s k h)); rw [hb] at this; cases this
theorem all_dig_next {s : ByteArray} {k : Nat} (h : k < s.size) (ha : (s.toList.take k).all digB = true) (hb : digB s[k] = true) : (s.toList.take (k + 1)).all digB = true := by
  rw [take_snoc s k h, List.all_append, ha]; simp [hb]
theorem head_is {s : ByteArray} (h : 0 < s.size) : s.toList.head? = some s[0] := by
  rw [List.head?_eq_getElem?, get_toList s 0 h]
theorem numR_bad {s d : List UInt8} {b : Bool} (hd : Lib.trimPrefix s [45] = d) (hb : Lib.hasPrefix s [45] = b) (h : numBad d b = true) : numR s = none := by
  unfold numR; rw [hd, hb, if_pos h]
theorem numR_not {s d : List UInt8} {b : Bool} (hd : Lib.trimPrefix s [45] = d) (hb : Lib.hasPrefix s [45] = b) (h : d.all digB = false) : numR s = none := by
  unfold numR; rw [hd, hb]; split
  · rfl
  · rw [if_neg (by rw [h]; decide)]
theorem numR_is {s d : List UInt8} {b : Bool} (hd : Lib.trimPrefix s [45] = d) (hb : Lib.hasPrefix s [45] = b) (h : numBad d b = false) (h2 : d.all digB = true) : numR s = some (if b = true then -(numN d : Int) else numN d) := by
  unfold numR; rw [hd, hb, if_neg (by rw [h]; decide), if_pos h2]
theorem int_eq {k : IntKind} {a b : Int} (h : a = b) : Value.int k a = .int k b := by rw [h]
theorem numV_eq {a b : Option Int} (h : a = b) : numV a = numV b := by rw [h]
set_option maxRecDepth 100000 in
set_option maxHeartbeats 2000000 in
theorem number_any (s : ByteArray) (w : World) :
    Calls Tryz.prog 106 #[.string s] w fun e w' => e = .returned (numV (numR s.toList)) ∧ w = w' := by
  obtain ⟨d, hd⟩ : ∃ d : ByteArray, d = ⟨(Lib.trimPrefix s.data.toList [45]).toArray⟩ := ⟨_, rfl⟩
  obtain ⟨b, hb⟩ : ∃ b, b = Lib.hasPrefix s.data.toList [45] := ⟨_, rfl⟩
  have hdl : Lib.trimPrefix s.toList [45] = d.toList := by rw [hd, ByteArray.toList_eq, ByteArray.toList_eq]
  have hbl : Lib.hasPrefix s.toList [45] = b := by rw [hb, ByteArray.toList_eq]
  have HBAD := Lib.hid (fun h => numV_eq (numR_bad hdl hbl h))
  have HNOT := Lib.hid (fun h => numV_eq (numR_not hdl hbl h))
  have HIS := Lib.hid (fun h h2 => numV_eq (numR_is hdl hbl h h2))
  have HC := Lib.hid (fun W => Tryz.strings_CutPrefix s ⟨#[45]⟩ W)
  have HCC : Hid (∀ W, Calls Tryz.prog 112 #[.string s, .string ⟨#[45]⟩] W fun e w' => e = .returned (.tuple #[.string d, .bool b]) ∧ W = w') := Lib.hid (fun W => by
    rw [hd, hb]
    exact (HC.out W).mono fun e w' h => by first | exact ⟨h.1, h.2.symm⟩ | exact ⟨h.1, h.2⟩)
  have hlen : d.toList.length = d.size := len_toList d
  clear hdl hbl hd hb HC
  by_cases h0 : d.size = 0
  · have HF := Lib.hid (HBAD.out (by unfold numBad; rw [hlen, h0]; rfl))
    go_enter Tryz.func106, Tryz.ntmps106
    go_wp2_with (go_at_call 112; refine (HCC.out _).mono ?_; rintro e w1 ⟨rfl, rfl⟩)
    go_ret2
    exact ⟨by rw [HF.out]; rfl, rfl⟩
  by_cases h18 : 18 < d.size
  · have HF := Lib.hid (HBAD.out (by unfold numBad; rw [hlen, decide_eq_true h18]; simp))
    have h0' : ((d.size : Int) == 0) = false := beq_eq_false_iff_ne.2 (by omega)
    go_enter Tryz.func106, Tryz.ntmps106
    go_wp2_with (go_at_call 112; refine (HCC.out _).mono ?_; rintro e w1 ⟨rfl, rfl⟩)
    go_ret2
    exact ⟨by rw [HF.out]; rfl, rfl⟩
  have hp : 0 < d.size := by omega
  have hh := head_is hp
  by_cases hz : numBad d.toList b = true
  · have HF := Lib.hid (HBAD.out hz)
    have h48 : (d[0].toNat : Int) = 48 ∧ (1 < d.size ∨ b = true) := by
      unfold numBad at hz
      rw [hlen, hh, decide_eq_false h0, decide_eq_false h18] at hz
      simp only [Bool.false_or, Bool.and_eq_true, Bool.or_eq_true, decide_eq_true_eq, beq_iff_eq, Option.some.injEq] at hz
      exact ⟨by rw [hz.1]; rfl, hz.2⟩
    obtain ⟨h48, h1⟩ := h48
    clear hz
    go_enter Tryz.func106, Tryz.ntmps106
    cases b
    · have h1' : 1 < d.size := by simpa using h1
      go_wp2_with (go_at_call 112; refine (HCC.out _).mono ?_; rintro e w1 ⟨rfl, rfl⟩)
      go_ret2
      exact ⟨by rw [HF.out]; rfl, rfl⟩
    · by_cases h1' : 1 < d.size
      all_goals
        go_wp2_with (go_at_call 112; refine (HCC.out _).mono ?_; rintro e w1 ⟨rfl, rfl⟩)
        go_ret2
        exact ⟨by rw [HF.out]; rfl, rfl⟩
  have hz' : numBad d.toList b = false := by simpa using hz
  clear hz
  have hok : ¬ (d[0].toNat : Int) = 48 ∨ (¬ 1 < d.size ∧ b = false) := by
    have h2 := hz'
    unfold numBad at h2
    rw [hlen, hh, decide_eq_false h0, decide_eq_false h18] at h2
    simp only [Bool.false_or, Bool.and_eq_false_iff, Bool.or_eq_false_iff, decide_eq_false_iff_not, beq_eq_false_iff_ne, ne_eq, Option.some.injEq] at h2
    rcases h2 with h2 | h2
    · exact .inl (fun e => h2 (UInt8.toNat_inj.1 (by have : (48 : UInt8).toNat = 48 := rfl; omega)))
    · exact .inr h2
  have HZ := Lib.hid hz'
  clear hz' hh
  have z0 : ((d.size : Int) == 0) = false := beq_eq_false_iff_ne.2 (by omega)
  have z18 : decide (18 < (d.size : Int)) = false := decide_eq_false (by omega)
  have HOK := Lib.hid hok
  clear hok
  go_enter Tryz.func106, Tryz.ntmps106
  cases b
  · have hor : ¬ (d[0].toNat : Int) = 48 ∨ (¬ 1 < d.size ∧ (d[0].toNat : Int) = 48) := by
      by_cases h48 : (d[0].toNat : Int) = 48
      · rcases HOK.out with h | h
        · exact absurd h48 h
        · exact .inr ⟨h.1, h48⟩
      · exact .inl h48
    clear HOK
    rcases hor with h48 | ⟨h1, h48⟩
    · have h48' : ((d[0].toNat : Int) == 48) = false := beq_eq_false_iff_ne.2 h48
      go_wp2_with (go_at_call 112; refine (HCC.out _).mono ?_; rintro e w1 ⟨rfl, rfl⟩)
      go_loop [6, 7, 36] (fun n _ i => ∃ k : Nat, k ≤ d.size ∧ i = .int .i64 k ∧ n = .int .i64 (numN (d.toList.take k)) ∧ (d.toList.take k).all digB = true) (fun _ _ i => d.size - (intOf i).toNat)
      case atStart => exact ⟨0, Nat.zero_le _, rfl, rfl, rfl⟩
      case round =>
        obtain ⟨k, hk, rfl, rfl, hall⟩ := hrel
        have HA := Lib.hid hall
        by_cases hlt : k < d.size
        · have HS := Lib.hid (take_snoc d k hlt)
          have hlim := numN_lt _ hall
          have hlk : (d.toList.take k).length = k := by rw [List.length_take, len_toList]; omega
          rw [hlk] at hlim
          have hpow : 10 ^ k ≤ 10 ^ 17 := Nat.pow_le_pow_right (by omega) (by omega)
          have h17 : (10 : Nat) ^ 17 = 100000000000000000 := by decide
          rw [h17] at hpow
          have hu : d[k].toNat ≤ 255 := by have := d[k].toNat_lt; omega
          have HN := Lib.hid (numN_snoc (d.toList.take k) d[k])
          have HYES := Lib.hid (fun hb => all_dig_next hlt HA.out hb)
          have HNO := Lib.hid (fun hb => HNOT.out (all_dig_no hlt hb))
          obtain ⟨q, hq⟩ : ∃ q, numN (d.toList.take k) = q := ⟨_, rfl⟩
          rw [hq] at hlim
          rw [hq]
          have HQ := Lib.hid hq
          clear hall hlk h17 hq
          by_cases a : (d[k].toNat : Int) < 48
          · have HF := Lib.hid (HNO.out (dig_no (.inl a)))
            clear HYES HNO
            go_wp2
            go_ret2
            exact ⟨by rw [HF.out]; rfl, rfl⟩
          by_cases c : 57 < (d[k].toNat : Int)
          · have HF := Lib.hid (HNO.out (dig_no (.inr c)))
            clear HYES HNO
            go_wp2
            go_ret2
            exact ⟨by rw [HF.out]; rfl, rfl⟩
          have HY := Lib.hid (HYES.out (dig_yes (by omega) (by omega)))
          have hw1 : IntKind.u8.wrap ((d[k].toNat : Int) - 48) = (d[k].toNat : Int) - 48 := by simp [IntKind.wrap, IntKind.bits, IntKind.signed]; omega
          have hw2 : IntKind.i64.wrap (10 * (q : Int)) = 10 * (q : Int) := IntWalk.i64_in _ (by omega)
          have hw3 : IntKind.i64.wrap ((d[k].toNat : Int) - 48) = (d[k].toNat : Int) - 48 := IntWalk.i64_in _ (by omega)
          have hw4 : IntKind.i64.wrap (10 * (q : Int) + ((d[k].toNat : Int) - 48)) = 10 * (q : Int) + ((d[k].toNat : Int) - 48) := IntWalk.i64_in _ (by omega)
          clear HYES HNO
          go_wp2
          go_round
          case rel =>
            refine ⟨k + 1, by omega, by go_num, ?_, HY.out⟩
            rw [HS.out, HN.out, HQ.out]
            exact int_eq (by omega)
          case measure => simp [intOf]; omega
        · have HALL := Lib.hid (show d.toList.all digB = true from by rwa [List.take_of_length_le (by rw [len_toList]; omega)] at hall)
          have hd : decide ((k : Int) < (d.size : Int)) = false := decide_eq_false (by omega)
          have HF := Lib.hid (HIS.out HZ.out HALL.out)
          have HT := Lib.hid (show d.toList.take k = d.toList from List.take_of_length_le (by rw [len_toList]; omega))
          have hlim := numN_lt _ HALL.out
          rw [len_toList] at hlim
          have hpow : 10 ^ d.size ≤ 10 ^ 18 := Nat.pow_le_pow_right (by omega) (by omega)
          have h18' : (10 : Nat) ^ 18 = 1000000000000000000 := by decide
          rw [h18'] at hpow
          rw [HT.out]
          obtain ⟨q, hq⟩ : ∃ q, numN d.toList = q := ⟨_, rfl⟩
          rw [hq] at hlim HF ⊢
          have hw1 : IntKind.i64.wrap (-(q : Int)) = -(q : Int) := IntWalk.i64_in _ (by omega)
          clear hall h18' hq
          go_wp2
          go_ret2
          exact ⟨by rw [HF.out]; rfl, rfl⟩
    · have z1 : decide (1 < (d.size : Int)) = false := decide_eq_false (by omega)
      go_wp2_with (go_at_call 112; refine (HCC.out _).mono ?_; rintro e w1 ⟨rfl, rfl⟩)
      go_loop [6, 7, 36] (fun n _ i => ∃ k : Nat, k ≤ d.size ∧ i = .int .i64 k ∧ n = .int .i64 (numN (d.toList.take k)) ∧ (d.toList.take k).all digB = true) (fun _ _ i => d.size - (intOf i).toNat)
      case atStart => exact ⟨0, Nat.zero_le _, rfl, rfl, rfl⟩
      case round =>
        obtain ⟨k, hk, rfl, rfl, hall⟩ := hrel
        have HA := Lib.hid hall
        by_cases hlt : k < d.size
        · have HS := Lib.hid (take_snoc d k hlt)
          have hlim := numN_lt _ hall
          have hlk : (d.toList.take k).length = k := by rw [List.length_take, len_toList]; omega
          rw [hlk] at hlim
          have hpow : 10 ^ k ≤ 10 ^ 17 := Nat.pow_le_pow_right (by omega) (by omega)
          have h17 : (10 : Nat) ^ 17 = 100000000000000000 := by decide
          rw [h17] at hpow
          have hu : d[k].toNat ≤ 255 := by have := d[k].toNat_lt; omega
          have HN := Lib.hid (numN_snoc (d.toList.take k) d[k])
          have HYES := Lib.hid (fun hb => all_dig_next hlt HA.out hb)
          have HNO := Lib.hid (fun hb => HNOT.out (all_dig_no hlt hb))
          obtain ⟨q, hq⟩ : ∃ q, numN (d.toList.take k) = q := ⟨_, rfl⟩
          rw [hq] at hlim
          rw [hq]
          have HQ := Lib.hid hq
          clear hall hlk h17 hq
          by_cases a : (d[k].toNat : Int) < 48
          · have HF := Lib.hid (HNO.out (dig_no (.inl a)))
            clear HYES HNO
            go_wp2
            go_ret2
            exact ⟨by rw [HF.out]; rfl, rfl⟩
          by_cases c : 57 < (d[k].toNat : Int)
          · have HF := Lib.hid (HNO.out (dig_no (.inr c)))
            clear HYES HNO
            go_wp2
            go_ret2
            exact ⟨by rw [HF.out]; rfl, rfl⟩
          have HY := Lib.hid (HYES.out (dig_yes (by omega) (by omega)))
          have hw1 : IntKind.u8.wrap ((d[k].toNat : Int) - 48) = (d[k].toNat : Int) - 48 := by simp [IntKind.wrap, IntKind.bits, IntKind.signed]; omega
          have hw2 : IntKind.i64.wrap (10 * (q : Int)) = 10 * (q : Int) := IntWalk.i64_in _ (by omega)
          have hw3 : IntKind.i64.wrap ((d[k].toNat : Int) - 48) = (d[k].toNat : Int) - 48 := IntWalk.i64_in _ (by omega)
          have hw4 : IntKind.i64.wrap (10 * (q : Int) + ((d[k].toNat : Int) - 48)) = 10 * (q : Int) + ((d[k].toNat : Int) - 48) := IntWalk.i64_in _ (by omega)
          clear HYES HNO
          go_wp2
          go_round
          case rel =>
            refine ⟨k + 1, by omega, by go_num, ?_, HY.out⟩
            rw [HS.out, HN.out, HQ.out]
            exact int_eq (by omega)
          case measure => simp [intOf]; omega
        · have HALL := Lib.hid (show d.toList.all digB = true from by rwa [List.take_of_length_le (by rw [len_toList]; omega)] at hall)
          have hd : decide ((k : Int) < (d.size : Int)) = false := decide_eq_false (by omega)
          have HF := Lib.hid (HIS.out HZ.out HALL.out)
          have HT := Lib.hid (show d.toList.take k = d.toList from List.take_of_length_le (by rw [len_toList]; omega))
          have hlim := numN_lt _ HALL.out
          rw [len_toList] at hlim
          have hpow : 10 ^ d.size ≤ 10 ^ 18 := Nat.pow_le_pow_right (by omega) (by omega)
          have h18' : (10 : Nat) ^ 18 = 1000000000000000000 := by decide
          rw [h18'] at hpow
          rw [HT.out]
          obtain ⟨q, hq⟩ : ∃ q, numN d.toList = q := ⟨_, rfl⟩
          rw [hq] at hlim HF ⊢
          have hw1 : IntKind.i64.wrap (-(q : Int)) = -(q : Int) := IntWalk.i64_in _ (by omega)
          clear hall h18' hq
          go_wp2
          go_ret2
          exact ⟨by rw [HF.out]; rfl, rfl⟩
  · have h48 : ¬ (d[0].toNat : Int) = 48 := by
      rcases HOK.out with h | h
      · exact h
      · exact absurd h.2 (by decide)
    have h48' : ((d[0].toNat : Int) == 48) = false := beq_eq_false_iff_ne.2 h48
    clear HOK
    go_wp2_with (go_at_call 112; refine (HCC.out _).mono ?_; rintro e w1 ⟨rfl, rfl⟩)
    go_loop [6, 7, 36] (fun n _ i => ∃ k : Nat, k ≤ d.size ∧ i = .int .i64 k ∧ n = .int .i64 (numN (d.toList.take k)) ∧ (d.toList.take k).all digB = true) (fun _ _ i => d.size - (intOf i).toNat)
    case atStart => exact ⟨0, Nat.zero_le _, rfl, rfl, rfl⟩
    case round =>
      obtain ⟨k, hk, rfl, rfl, hall⟩ := hrel
      have HA := Lib.hid hall
      by_cases hlt : k < d.size
      · have HS := Lib.hid (take_snoc d k hlt)
        have hlim := numN_lt _ hall
        have hlk : (d.toList.take k).length = k := by rw [List.length_take, len_toList]; omega
        rw [hlk] at hlim
        have hpow : 10 ^ k ≤ 10 ^ 17 := Nat.pow_le_pow_right (by omega) (by omega)
        have h17 : (10 : Nat) ^ 17 = 100000000000000000 := by decide
        rw [h17] at hpow
        have hu : d[k].toNat ≤ 255 := by have := d[k].toNat_lt; omega
        have HN := Lib.hid (numN_snoc (d.toList.take k) d[k])
        have HYES := Lib.hid (fun hb => all_dig_next hlt HA.out hb)
        have HNO := Lib.hid (fun hb => HNOT.out (all_dig_no hlt hb))
        obtain ⟨q, hq⟩ : ∃ q, numN (d.toList.take k) = q := ⟨_, rfl⟩
        rw [hq] at hlim
        rw [hq]
        have HQ := Lib.hid hq
        clear hall hlk h17 hq
        by_cases a : (d[k].toNat : Int) < 48
        · have HF := Lib.hid (HNO.out (dig_no (.inl a)))
          clear HYES HNO
          go_wp2
          go_ret2
          exact ⟨by rw [HF.out]; rfl, rfl⟩
        by_cases c : 57 < (d[k].toNat : Int)
        · have HF := Lib.hid (HNO.out (dig_no (.inr c)))
          clear HYES HNO
          go_wp2
          go_ret2
          exact ⟨by rw [HF.out]; rfl, rfl⟩
        have HY := Lib.hid (HYES.out (dig_yes (by omega) (by omega)))
        have hw1 : IntKind.u8.wrap ((d[k].toNat : Int) - 48) = (d[k].toNat : Int) - 48 := by simp [IntKind.wrap, IntKind.bits, IntKind.signed]; omega
        have hw2 : IntKind.i64.wrap (10 * (q : Int)) = 10 * (q : Int) := IntWalk.i64_in _ (by omega)
        have hw3 : IntKind.i64.wrap ((d[k].toNat : Int) - 48) = (d[k].toNat : Int) - 48 := IntWalk.i64_in _ (by omega)
        have hw4 : IntKind.i64.wrap (10 * (q : Int) + ((d[k].toNat : Int) - 48)) = 10 * (q : Int) + ((d[k].toNat : Int) - 48) := IntWalk.i64_in _ (by omega)
        clear HYES HNO
        go_wp2
        go_round
        case rel =>
          refine ⟨k + 1, by omega, by go_num, ?_, HY.out⟩
          rw [HS.out, HN.out, HQ.out]
          exact int_eq (by omega)
        case measure => simp [intOf]; omega
      · have HALL := Lib.hid (show d.toList.all digB = true from by rwa [List.take_of_length_le (by rw [len_toList]; omega)] at hall)
        have hd : decide ((k : Int) < (d.size : Int)) = false := decide_eq_false (by omega)
        have HF := Lib.hid (HIS.out HZ.out HALL.out)
        have HT := Lib.hid (show d.toList.take k = d.toList from List.take_of_length_le (by rw [len_toList]; omega))
        have hlim := numN_lt _ HALL.out
        rw [len_toList] at hlim
        have hpow : 10 ^ d.size ≤ 10 ^ 18 := Nat.pow_le_pow_right (by omega) (by omega)
        have h18' : (10 : Nat) ^ 18 = 1000000000000000000 := by decide
        rw [h18'] at hpow
        rw [HT.out]
        obtain ⟨q, hq⟩ : ∃ q, numN d.toList = q := ⟨_, rfl⟩
        rw [hq] at hlim HF ⊢
        have hw1 : IntKind.i64.wrap (-(q : Int)) = -(q : Int) := IntWalk.i64_in _ (by omega)
        clear hall h18' hq
        go_wp2
        go_ret2
        exact ⟨by rw [HF.out]; rfl, rfl⟩
theorem digits_any (n : Int) (w : World) (h0 : -9223372036854775808 ≤ n) (h1 : n ≤ 9223372036854775807) (htab : Lib.TabIs Tryz.prog w "internal/strconv.uint64pow10" .u64 Lib.pow10Tab) :
    Calls Tryz.prog 24 #[.int .i64 n] w fun e w' => e = .returned (.string ⟨(Lib.itoa n).toArray⟩) ∧ Below w.heap.size w w' := by
  go_enter Tryz.func24, Tryz.ntmps24
  go_wp2_with (go_at_call 74; refine (Tryz.strconv_Itoa n h0 h1 _ htab).mono ?_; rintro e w1 ⟨rfl, k, os, rfl⟩)
  go_ret
  exact ⟨rfl, Lib.below_grow _ _ (Nat.le_refl _) _ _⟩
end Go.Proofs.YtnnamhomapagiaaGreatDoor
