/-
  sedimentbook.Room and Short: are texts few, and together short enough?
-/
import Derived.Test.YtcglbbabfkbcbaaMem
import Derived.Test.YtcglbbabfkbcbaaPlain5
import Derived.WalkSpells
import Derived.WalkLawsBesides
import Derived.Lib.Hide
import Derived.Outline
namespace Go.Proofs.Ytcglbbabfkbcbaa
open Go.RowKit

/-- How much room is left behind a part. -/
def roomI (r m : Int) : Int := if r < 0 ∨ r < m then -1 else r - m
set_option maxHeartbeats 1000000 in
theorem room_one (r : Int) (m : Nat) (g : Nat) (w : World) (hr : -1 ≤ r ∧ r ≤ 1000000) (hm : m ≤ maxLen) (h0 : w.cell? ⟨g, 0, none⟩ = some (.int .i64 m)) :
    Calls Try.prog 20 #[.int .i64 r, .slice (some ⟨g, 0, none⟩) 1 1] w fun e w' => e = .returned (.int .i64 (roomI r m)) ∧ w = w' := by
  unfold maxLen at hm
  obtain ⟨hr1, hr2⟩ := hr
  by_cases h1 : r < 0
  · have HF : Hid (roomI r m = -1) := if_pos (.inl h1)
    go_enter Try.func20, Try.ntmps20
    go_wp2
    refine wp_loop_rounds 2 ?_
    rw [rounds_succ]
    go_wp2
    go_ret
    exact ⟨ret_int HF.out.symm, rfl⟩
  · by_cases h2 : r < m
    · have HF : Hid (roomI r m = -1) := if_pos (.inr h2)
      go_enter Try.func20, Try.ntmps20
      go_wp2
      refine wp_loop_rounds 2 ?_
      rw [rounds_succ]
      go_wp2
      go_ret
      exact ⟨ret_int HF.out.symm, rfl⟩
    · have HF : Hid (roomI r m = r - m) := if_neg (by omega)
      go_enter Try.func20, Try.ntmps20
      go_wp2
      refine wp_loop_rounds 2 ?_
      rw [rounds_succ]
      go_wp2
      rw [rounds_succ]
      go_wp2
      go_ret
      exact ⟨ret_int HF.out.symm, rfl⟩

/-- What Short answers: if it says yes, the texts are few and together short. -/
def total (ss : List ByteArray) : Nat := (ss.map ByteArray.size).sum
def ShortSays (n : Nat) (few room : Int) (ss : List ByteArray) (w : World) (e : Ending) (w' : World) : Prop :=
  ∃ b : Bool, e = .returned (.bool b) ∧ (b = true → (n : Int) ≤ few ∧ (total ss : Int) ≤ room) ∧ Below w.heap.size w w'
theorem total_snoc (l : List ByteArray) (s : ByteArray) : total (l ++ [s]) = total l + s.size := by simp [total]
theorem total_next (ss : List ByteArray) (k : Nat) (h : k < ss.length) : total (ss.take (k + 1)) = total (ss.take k) + ss[k].size := by
  rw [List.take_succ_eq_append_getElem h, total_snoc]
theorem room_next {room r : Int} {ss : List ByteArray} {k : Nat} (h : k < ss.length) (hr : r = -1 ∨ (0 ≤ r ∧ r = room - total (ss.take k))) :
    roomI r ss[k].size = -1 ∨ (0 ≤ roomI r ss[k].size ∧ roomI r ss[k].size = room - total (ss.take (k + 1))) := by
  unfold roomI
  rcases hr with rfl | ⟨h0, hr⟩
  · exact .inl (if_pos (.inl (by omega)))
  · by_cases hlt : r < ss[k].size
    · exact .inl (if_pos (.inr hlt))
    · rw [if_neg (by omega), total_next ss k h]
      right; omega
theorem total_pos (ss : List ByteArray) : 0 ≤ (total ss : Int) := by omega
set_option maxHeartbeats 1000000 in
theorem short_any (few room : Int) (A : Option Addr) (n c : Nat) (ss : List ByteArray) (w : World) (hs : Strs w A n ss) (hroom : 0 ≤ room ∧ room ≤ 1000000) :
    Calls Try.prog 4 #[.int .i64 few, .int .i64 room, .slice A n c] w (ShortSays n few room ss w) := by
  have hn := hs.n_le
  have hl := hs.len
  unfold maxLen at hn
  obtain ⟨hr1, hr2⟩ := hroom
  by_cases hf : few < n
  · go_enter Try.func4, Try.ntmps4
    go_wp2
    go_ret
    exact ⟨false, rfl, by simp, Below.refl _ _⟩
  · have HL := Lib.hid hl
    clear hl
    go_enter Try.func4, Try.ntmps4
    go_wp2
    go_loopw [1, 7] (fun rv i wr => ∃ (k : Nat) (r : Int), k ≤ n ∧ i = .int .i64 k ∧ rv = .int .i64 r ∧ (r = -1 ∨ (0 ≤ r ∧ r = room - total (ss.take k))) ∧ Below w.heap.size w wr) (fun _ i _ => n - (intOf i).toNat)
    case atStart => exact ⟨0, room, Nat.zero_le _, rfl, rfl, .inr ⟨by omega, by simp [total]⟩, Below.refl _ _⟩
    case round =>
      obtain ⟨k, r, hk, rfl, rfl, hrel2, hbel⟩ := hrel
      have HR := Lib.hid hrel2
      have hb1 : -1 ≤ r := by rcases hrel2 with h | h <;> omega
      have hb2 : r ≤ 1000000 := by have := total_pos (ss.take k); rcases hrel2 with h | h <;> omega
      clear hrel2
      by_cases hlt : k < n
      · by_cases h0 : 0 ≤ r
        · obtain ⟨b, off, rfl, hb, hc⟩ := (hs.below hbel).get (j := k) (by rw [HL.out]; exact hlt)
          have hsz := hs.size _ (List.getElem_mem (l := ss) (n := k) (by rw [HL.out]; exact hlt))
          have HX := Lib.hid (room_next (room := room) (by rw [HL.out]; exact hlt) HR.out)
          go_wp2_with (go_at_call 20; refine (room_one _ _ _ _ ⟨by omega, by omega⟩ hsz (by simp [go_sem])).mono ?_; rintro e w' ⟨rfl, rfl⟩)
          go_roundw
          case rel => exact ⟨k + 1, _, by omega, by go_num, rfl, HX.out, hbel.alloc hbel.size _⟩
          case measure => simp [intOf]; omega
        · go_wp2
          go_ret
          exact ⟨false, rfl, by simp, hbel⟩
      · go_wp2
        go_ret
        refine ⟨decide (0 ≤ r), rfl, fun hd => ?_, hbel⟩
        have h0 : 0 ≤ r := of_decide_eq_true hd
        have hr := HR.out
        rw [List.take_of_length_le (by rw [HL.out]; omega)] at hr
        exact ⟨by omega, by rcases hr with h | h <;> omega⟩
end Go.Proofs.Ytcglbbabfkbcbaa
