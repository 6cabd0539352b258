/-
  NameParts: its walk.
-/
import Derived.Test.YtcepghlfbhfdnaaAlive5
import Derived.Test.YtcepghlfbhfdnaaShort
import Derived.Deep.DeepCutAuto
import Derived.Laws.BytesArg
import Derived.Laws.Concat
namespace Go.Proofs.Ytcepghlfbhfdnaa
open Go.RowKit

theorem valid_s {A : Option Addr} {n c : Nat} {ss : List ByteArray} {w : World} (h : Strs w A n ss) :
    Calls Try.prog 12 #[.slice A n c] w fun e w' => e = .returned (.bool (ss.all fun s => validB s.toList)) ∧ w = w' := valid_any A n c ss w h.n_le h.len h.size h.hr
/-- One text alone. -/
theorem valid_one {g c : Nat} {s : ByteArray} {w : World} (hc : w.cell? ⟨g, 0, none⟩ = some (.string s)) (hs : s.size ≤ maxLen) :
    Calls Try.prog 12 #[.slice (some ⟨g, 0, none⟩) 1 c] w fun e w' => e = .returned (.bool (validB s.toList)) ∧ w = w' := by
  have h : Strs w (some ⟨g, 0, none⟩) 1 [s] := ⟨⟨fun _ => ⟨g, 0, rfl, block_lt_of_cell hc, fun j u hu => by
    match j, hu with
    | 0, hu => simp at hu; subst hu; exact hc⟩⟩, rfl, by decide, by simpa using hs⟩
  exact (valid_s h).mono fun _ _ ⟨he, hw⟩ => ⟨by simpa using he, hw⟩
theorem all_take_next (ss : List ByteArray) (k : Nat) (h : k < ss.length) : ((ss.take (k + 1)).all fun s => validB s.toList) = (((ss.take k).all fun s => validB s.toList) && validB (ss[k].toList)) := by
  rw [List.take_succ_eq_append_getElem h, List.all_append]; simp
set_option maxHeartbeats 2000000 in
/-- string([]byte{b}) at a block that has just been laid. -/
theorem conv_one (v : Int) (W : World) : (convert 35 9 (.slice (some ⟨W.heap.size, 0, none⟩) 1 1)).run Try.prog (W.alloc (.cells #[.int .u8 v] 5)) = .ok (.string (strOfNums [v])) (W.alloc (.cells #[.int .u8 v] 5)) :=
  run_convert_bytes_arg _ 35 5 Try.underlying35 Try.underlying5 W.heap.size 0 1 1 [v] rfl (fun i hi => by
    have : i = 0 := by omega
    subst this; simp [go_sem]) 9 Try.underlying9
theorem num_one (c : Int) : (((UInt8.ofNat (c % 256).toNat).toNat : Nat) : Int) = c % 256 := by
  rw [UInt8.toNat_ofNat']; omega
theorem append_one (s : ByteArray) (v : Int) : (s ++ strOfNums [v]).toList = s.toList ++ [UInt8.ofNat v.toNat] := by
  rw [ByteArray.toList_eq, ByteArray.toList_eq]; simp [strOfNums]
theorem size_one (s : ByteArray) (v : Int) : (s ++ strOfNums [v]).size = s.size + 1 := by
  rw [← len_toList, append_one]; simp [len_toList]
theorem valid_more (s : ByteArray) (c : Int) : validB (s ++ strOfNums [c % 256]).toList = (letterB (c % 256) && (decide (s.size = 0) || validB s.toList) && decide (s.size < 15)) := by
  have h := num_one c
  rw [append_one]
  unfold validB
  rw [lettersB_snoc, h, List.length_append, len_toList]
  by_cases h0 : s.size = 0
  · have : s.toList = [] := List.eq_nil_of_length_eq_zero (by rw [len_toList]; exact h0)
    rw [this, h0]; simp [lettersB]
  · clear h
    by_cases h15 : s.size < 15
    · rw [decide_eq_true (show 1 ≤ s.size + [UInt8.ofNat (c % 256).toNat].length ∧ s.size + [UInt8.ofNat (c % 256).toNat].length ≤ 15 from ⟨by simp, by simp; omega⟩), decide_eq_true (show 1 ≤ s.size ∧ s.size ≤ 15 by omega)]
      cases lettersB s.toList <;> cases letterB (c % 256) <;> simp [h0, h15]
    · rw [decide_eq_false (show ¬(1 ≤ s.size + [UInt8.ofNat (c % 256).toNat].length ∧ s.size + [UInt8.ofNat (c % 256).toNat].length ≤ 15) from fun hh => by have := hh.2; simp at this; omega)]
      simp [h15]
set_option maxRecDepth 100000 in
set_option maxHeartbeats 8000000 in
theorem walk_nameParts {w : World} (A : Option Addr) (n cap : Nat) (ss : List ByteArray) (hs : Strs w A n ss) (s : ByteArray) (hz : s.size ≤ maxLen) (c : Int) (_hc : (Lit.int .i64 c).wf = true) :
    Calls Try.prog 5 #[.slice A n cap, .string s, .int .i64 c] w fun e w' => e = .returned (.bool true) ∧ Below w.heap.size w w' := by
  have hl := hs.len
  have hn := hs.n_le
  unfold maxLen at hn
  by_cases h60 : 60 < s.size
  · go_enter Try.func5, Try.ntmps5
    go_wp2_with fail
    refine (short_any _ _ _ _ _ _ _ hs (by omega)).mono ?_
    rintro e w1 ⟨b, rfl, hsh, hb1⟩
    cases b
    all_goals
      go_wp2_with fail
      refine (alive_any _).mono ?_
      rintro e w2 ⟨rfl, hb2⟩
      go_wp2_with fail
      go_ret
      exact ⟨rfl, hb1.trans (hb2.mono hb1.size)⟩
  · have HL := Lib.hid hl
    clear hl
    go_enter Try.func5, Try.ntmps5
    go_wp2_with fail
    refine (short_any _ _ _ _ _ _ _ hs (by omega)).mono ?_
    rintro e w1 ⟨b, rfl, hsh, hb1⟩
    clear hsh
    cases b
    · go_wp2_with fail
      refine (alive_any _).mono ?_
      rintro e w2 ⟨rfl, hb2⟩
      go_wp2_with fail
      go_ret
      exact ⟨rfl, hb1.trans (hb2.mono hb1.size)⟩
    · go_wp2_with fail
      go_loopw [7, 8] (fun a i wr => ∃ k : Nat, k ≤ n ∧ i = .int .i64 k ∧ a = .bool ((ss.take k).all fun s => validB s.toList) ∧ Below w.heap.size w wr) (fun _ i _ => n - (intOf i).toNat)
      case atStart => exact ⟨0, Nat.zero_le _, rfl, rfl, hb1⟩
      case round =>
        obtain ⟨k, hk, rfl, rfl, hbel⟩ := hrel
        by_cases hlt : k < n
        · obtain ⟨b, off, rfl, hb, hcell⟩ := (hs.below hbel).get (j := k) (by rw [HL.out]; exact hlt)
          have hsz := hs.size _ (List.getElem_mem (l := ss) (n := k) (by rw [HL.out]; exact hlt))
          have HX := Lib.hid (all_take_next ss k (by rw [HL.out]; exact hlt))
          cases hall : ((ss.take k).all fun s => validB s.toList)
          all_goals
            rw [hall] at HX
            clear hall
            go_wp2_with (go_at_call 12; refine (valid_one (by simp [go_sem]) hsz).mono ?_; rintro e w' ⟨rfl, rfl⟩)
            go_roundw
            case rel => exact ⟨k + 1, by omega, by go_num, by rw [HX.out]; rfl, by first | exact hbel | exact hbel.alloc hbel.size _⟩
            case measure => simp [intOf]; omega
        · have hk' : k = n := by omega
          subst hk'
          rw [List.take_of_length_le (by rw [HL.out]; omega)]
          go_upto_region 9 with fail
          go_cut [9, 10] (fun s9 s10 wx => s9 = .int .u8 (c % 256) ∧ s10 = .bool (letterB (c % 256)) ∧ wx = wr)
          case first =>
            by_cases a : 97 ≤ c % 256 <;> by_cases b : c % 256 ≤ 122 <;> by_cases d : 48 ≤ c % 256 <;> by_cases f : c % 256 ≤ 57 <;> by_cases g : c % 256 = 46 <;> by_cases i : c % 256 = 95 <;> by_cases j : c % 256 = 45 <;> try omega
            all_goals
              go_wp2_with fail
              go_meet
              first
                | exact ⟨by simp [*], by rw [letter_yes (by omega)], rfl⟩
                | exact ⟨by simp [*], by rw [letter_no (by omega)]; simp; omega, rfl⟩
          case rest =>
            obtain ⟨rfl, rfl, rfl⟩ := hcut
            go_wp2_with fail
            refine (alive_any _).mono ?_
            rintro e w2 ⟨rfl, hb2⟩
            have hb3 := hbel.trans (hb2.mono hbel.size)
            go_wp2_with fail
            refine (valid_s (hs.below hb3)).mono ?_
            rintro e w' ⟨rfl, rfl⟩
            generalize ss.all (fun s => validB s.toList) = all
            have kc := conv_one
            have ks : (strOfNums [c % 256]).size = 1 := rfl
            have HV := Lib.hid (valid_more s c)
            have h16 : (s ++ strOfNums [c % 256]).size ≤ maxLen := by rw [size_one]; unfold maxLen; omega
            have hnil : validB [] = false := by decide
            cases hL : letterB (c % 256)
            · rw [hL, Bool.false_and, Bool.false_and] at HV
              cases all
              all_goals
                go_wp2_with fail
                refine (valid_one (by simp [go_sem]) h16).mono ?_
                rintro e w' ⟨rfl, rfl⟩
                rw [HV.out]
                go_wp2_with fail
                refine (valid_one (s := ⟨#[]⟩) (by simp [go_sem]) (by decide)).mono ?_
                rintro e w' ⟨rfl, rfl⟩
                go_wp2_with fail
                go_ret
                exact ⟨rfl, by repeat (first | exact hb3 | refine Below.alloc ?_ (by have := hb3.size; simp; try omega) _)⟩
            · by_cases h0 : s.size < 1
              · have hemp : s.toList.isEmpty = true := by rw [List.isEmpty_iff]; exact List.eq_nil_of_length_eq_zero (by rw [len_toList]; omega)
                rw [hL, Bool.true_and, decide_eq_true (show s.size = 0 by omega), Bool.true_or, decide_eq_true (show s.size < 15 by omega), Bool.true_and] at HV
                cases all
                all_goals
                  go_wp2_with fail
                  refine (valid_one (by simp [go_sem]) h16).mono ?_
                  rintro e w' ⟨rfl, rfl⟩
                  rw [HV.out]
                  go_wp2_with fail
                  refine (valid_one (s := ⟨#[]⟩) (by simp [go_sem]) (by decide)).mono ?_
                  rintro e w' ⟨rfl, rfl⟩
                  go_wp2_with fail
                  go_ret
                  exact ⟨rfl, by repeat (first | exact hb3 | refine Below.alloc ?_ (by have := hb3.size; simp; try omega) _)⟩
              · have hemp : s.toList.isEmpty = false := by
                  cases hh : s.toList.isEmpty
                  · rfl
                  · rw [List.isEmpty_iff] at hh; have := len_toList s; rw [hh] at this; simp at this; omega
                rw [hL, Bool.true_and, decide_eq_false (show ¬ s.size = 0 by omega), Bool.false_or] at HV
                cases hvs : validB s.toList
                · rw [hvs, Bool.false_and] at HV
                  cases all
                  all_goals
                    go_wp2_with fail
                    refine (valid_one (by simp [go_sem]) h16).mono ?_
                    rintro e w' ⟨rfl, rfl⟩
                    rw [HV.out]
                    go_wp2_with fail
                    refine (valid_one (by simp [go_sem]) hz).mono ?_
                    rintro e w' ⟨rfl, rfl⟩
                    go_wp2_with fail
                    refine (valid_one (s := ⟨#[]⟩) (by simp [go_sem]) (by decide)).mono ?_
                    rintro e w' ⟨rfl, rfl⟩
                    go_wp2_with fail
                    go_ret
                    exact ⟨rfl, by repeat (first | exact hb3 | refine Below.alloc ?_ (by have := hb3.size; simp; try omega) _)⟩
                · by_cases h15 : s.size < 15
                  · rw [hvs, Bool.true_and, decide_eq_true h15] at HV
                    cases all
                    all_goals
                      go_wp2_with fail
                      refine (valid_one (by simp [go_sem]) h16).mono ?_
                      rintro e w' ⟨rfl, rfl⟩
                      rw [HV.out]
                      go_wp2_with fail
                      refine (valid_one (by simp [go_sem]) hz).mono ?_
                      rintro e w' ⟨rfl, rfl⟩
                      go_wp2_with fail
                      refine (valid_one (s := ⟨#[]⟩) (by simp [go_sem]) (by decide)).mono ?_
                      rintro e w' ⟨rfl, rfl⟩
                      go_wp2_with fail
                      go_ret
                      exact ⟨rfl, by repeat (first | exact hb3 | refine Below.alloc ?_ (by have := hb3.size; simp; try omega) _)⟩
                  · rw [hvs, Bool.true_and, decide_eq_false h15] at HV
                    have hd : decide ((s.size : Int) < 15) = false := by simp; omega
                    cases all
                    all_goals
                      go_wp2_with fail
                      refine (valid_one (by simp [go_sem]) h16).mono ?_
                      rintro e w' ⟨rfl, rfl⟩
                      rw [HV.out]
                      go_wp2_with fail
                      refine (valid_one (by simp [go_sem]) hz).mono ?_
                      rintro e w' ⟨rfl, rfl⟩
                      go_wp2_with fail
                      refine (valid_one (s := ⟨#[]⟩) (by simp [go_sem]) (by decide)).mono ?_
                      rintro e w' ⟨rfl, rfl⟩
                      go_wp2_with fail
                      go_ret
                      exact ⟨rfl, by repeat (first | exact hb3 | refine Below.alloc ?_ (by have := hb3.size; simp; try omega) _)⟩
end Go.Proofs.Ytcepghlfbhfdnaa
