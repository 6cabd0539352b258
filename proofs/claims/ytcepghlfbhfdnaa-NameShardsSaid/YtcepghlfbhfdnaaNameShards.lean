/-
  NameShards: its walk: whatever the text and the number of shards, the call returns true and turns nothing that was there.
-/
import Derived.Test.YtcepghlfbhfdnaaAlive5
namespace Go.Proofs.Ytcepghlfbhfdnaa
open Go.RowKit

theorem shard_in (l : List UInt8) (n : Int) (h : 1 ≤ n) : 0 ≤ shardI l n ∧ shardI l n < n := by
  unfold shardI; rw [if_neg (by omega)]; exact ⟨Int.emod_nonneg _ (by omega), Int.emod_lt_of_pos _ (by omega)⟩
theorem shard_low (l : List UInt8) (n : Int) (h : n < 1) : shardI l n = 0 := if_pos h
theorem shard_one (l : List UInt8) : shardI l 1 = 0 := by have := shard_in l 1 (by omega); omega
set_option maxHeartbeats 1000000 in
theorem walk_nameShards (s : ByteArray) (hs : s.size ≤ maxLen) (n : Int) (_hn : (Lit.int .i64 n).wf = true) (w : World) :
    Calls Try.prog 3 #[.string s, .int .i64 n] w fun e w' => e = .returned (.bool true) ∧ Below w.heap.size w w' := by
  by_cases h3 : 300 < s.size
  · go_enter Try.func3, Try.ntmps3
    go_wp2_with (go_at_call 8; refine (alive_any _).mono ?_; rintro e w1 ⟨rfl, hb⟩)
    go_ret
    exact ⟨rfl, hb⟩
  · by_cases h : n < 1
    · have e1 := shard_low s.toList n h
      have e2 := shard_one s.toList
      go_enter Try.func3, Try.ntmps3
      go_wp2_with (first
        | (go_at_call 8; refine (alive_any _).mono ?_; rintro e w1 ⟨rfl, hb⟩)
        | (go_at_call 9; refine (shard_any _ _ _ hs).mono ?_; rintro e w' ⟨rfl, rfl⟩))
      go_ret
      exact ⟨rfl, hb⟩
    · have e1 := shard_in s.toList n (by omega)
      obtain ⟨e3, e4⟩ := e1
      have e2 := shard_one s.toList
      go_enter Try.func3, Try.ntmps3
      go_wp2_with (first
        | (go_at_call 8; refine (alive_any _).mono ?_; rintro e w1 ⟨rfl, hb⟩)
        | (go_at_call 9; refine (shard_any _ _ _ hs).mono ?_; rintro e w' ⟨rfl, rfl⟩))
      go_ret
      exact ⟨rfl, hb⟩
end Go.Proofs.Ytcepghlfbhfdnaa
