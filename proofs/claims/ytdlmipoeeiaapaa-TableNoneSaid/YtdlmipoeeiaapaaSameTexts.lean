/-
  sedimentbook.SameTexts: are two lists of texts alike?
-/
import Derived.Test.YtdlmipoeeiaapaaMem
import Derived.Test.YtdlmipoeeiaapaaPlain5
import Derived.WalkSpells
import Derived.WalkLawsBesides
import Derived.Lib.Hide
import Derived.Outline
import Derived.Deep.QuietTactic
import Derived.BigQuiet
namespace Go.Proofs.Ytdlmipoeeiaapaa
open Go.RowKit

def txt (ss : List ByteArray) : List (List UInt8) := ss.map ByteArray.toList
theorem take_next {α : Type} (l : List α) (k : Nat) (h : k < l.length) : l.take (k + 1) = l.take k ++ [l[k]] := List.take_succ_eq_append_getElem h
theorem txt_take_next (ss ts : List ByteArray) (k : Nat) (h1 : k < ss.length) (h2 : k < ts.length) (h : txt (ss.take k) = txt (ts.take k)) (he : (ss[k].toList == ts[k].toList) = true) : txt (ss.take (k + 1)) = txt (ts.take (k + 1)) := by
  rw [take_next ss k h1, take_next ts k h2]
  unfold txt at *
  rw [List.map_append, List.map_append, h]
  simp at he
  simp [he]
theorem txt_differ (ss ts : List ByteArray) (k : Nat) (h1 : k < ss.length) (h2 : k < ts.length) (he : (ss[k].toList == ts[k].toList) = false) : decide (txt ss = txt ts) = false := by
  rw [decide_eq_false_iff_not]
  intro e
  have : (txt ss)[k]? = (txt ts)[k]? := by rw [e]
  simp [txt, h1, h2] at this
  simp at he
  exact he this
theorem txt_length {ss ts : List ByteArray} (h : ss.length ≠ ts.length) : decide (txt ss = txt ts) = false := by
  rw [decide_eq_false_iff_not]
  intro e
  have := congrArg List.length e
  simp [txt] at this
  exact h this
def Says (b : Bool) (w : World) (e : Ending) (w' : World) : Prop := e = .returned (.bool b) ∧ Below w.heap.size w w'
set_option maxHeartbeats 1000000 in
theorem sameTexts_any (A B : Option Addr) (n m c d : Nat) (ss ts : List ByteArray) (w : World) (hs : Strs w A n ss) (ht : Strs w B m ts) :
    Calls Try.prog 26 #[.slice A n c, .slice B m d] w (Says (decide (txt ss = txt ts)) w) := by
  have hn := hs.n_le
  have hm := ht.n_le
  have HL := Lib.hid hs.len
  have HM := Lib.hid ht.len
  unfold maxLen at hn hm
  by_cases hnm : n = m
  · subst hnm
    go_enter Try.func26, Try.ntmps26
    go_wp2
    go_loopw [5] (fun i wr => ∃ k : Nat, k ≤ n ∧ i = .int .i64 k ∧ txt (ss.take k) = txt (ts.take k) ∧ Below w.heap.size w wr) (fun i _ => n - (intOf i).toNat)
    case atStart => exact ⟨0, Nat.zero_le _, rfl, rfl, Below.refl _ _⟩
    case round =>
      obtain ⟨k, hk, rfl, htk, hbel⟩ := hrel
      have HT := Lib.hid htk
      clear htk
      by_cases hlt : k < n
      · obtain ⟨b, off, rfl, hb, hc⟩ := (hs.below hbel).get (j := k) (by rw [HL.out]; exact hlt)
        obtain ⟨b2, off2, rfl, hb2, hc2⟩ := (ht.below hbel).get (j := k) (by rw [HM.out]; exact hlt)
        have h0 : (0 : Int) ≤ (k : Int) := by omega
        have h1 : (k : Int) < (n : Int) := by omega
        have K1 : k < ss.length := by rw [HL.out]; exact hlt
        have K2 : k < ts.length := by rw [HM.out]; exact hlt
        cases he : (ss[k].toList == ts[k].toList)
        · have HF := Lib.hid (txt_differ ss ts k K1 K2 he)
          go_wp2
          go_quiet (fail)
          go_wp2
          go_ret
          exact ⟨ret_bool HF.out.symm, below_drewN hbel _⟩
        · have HF := Lib.hid (txt_take_next ss ts k K1 K2 HT.out he)
          go_wp2
          go_quiet (fail)
          go_wp2
          go_roundw
          case rel => exact ⟨k + 1, by omega, by go_num, HF.out, below_drewN hbel _⟩
          case measure => simp [intOf]; omega
      · go_wp2
        go_ret
        have e1 := HT.out
        rw [List.take_of_length_le (by rw [HL.out]; omega), List.take_of_length_le (by rw [HM.out]; omega)] at e1
        exact ⟨ret_bool (by rw [e1]; simp), hbel⟩
  · have HF := Lib.hid (txt_length (ss := ss) (ts := ts) (by rw [HL.out, HM.out]; exact hnm))
    have hne : ((n : Int) == (m : Int)) = false := by simp; omega
    go_enter Try.func26, Try.ntmps26
    go_wp2
    go_ret
    exact ⟨ret_bool HF.out.symm, Below.refl _ _⟩
end Go.Proofs.Ytdlmipoeeiaapaa
