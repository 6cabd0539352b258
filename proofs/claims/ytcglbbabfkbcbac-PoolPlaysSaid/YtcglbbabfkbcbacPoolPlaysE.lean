/-
  PoolPlays: the pools that it does not play with.
-/
import Derived.Test.YtcglbbabfkbcbacPoolPlaysC
import Derived.Test.YtcglbbabfkbcbacAlive18
namespace Go.Proofs.Ytcglbbabfkbcbac
open Go.RowKit Go.Maps

set_option maxRecDepth 100000 in
set_option maxHeartbeats 4000000 in
theorem plays_big (from_ n : Int) (zero : Bool) (A : Option Addr) (len cap : Nat) (os : List OpV) (w : World) (h : Ops w A len os) (hf : -9223372036854775808 ≤ from_ ∧ from_ ≤ 9223372036854775807) (hn : 60 < n) :
    Calls Try.prog 3 #[.int .i64 from_, .int .i64 n, .bool zero, .slice A len cap] w fun e w' => e = .returned (.bool true) ∧ Below w.heap.size w w' := by
  go_enter Try.func3, Try.ntmps3
  go_wp2_with fail
  refine (light_any A len cap os w h).mono ?_
  rintro e w1 ⟨b, rfl, hlight, hb1⟩
  clear hlight h
  by_cases h2 : n ≤ 4096
  · cases b
    · go_wp2_with fail
      refine (alive_any _).mono ?_
      rintro e w2 ⟨rfl, hb2⟩
      go_wp2_with fail
      go_ret
      exact ⟨rfl, hb1.trans (hb2.mono hb1.size)⟩
    · go_wp2_with fail
      refine (alive_any _).mono ?_
      rintro e w2 ⟨rfl, hb2⟩
      go_wp2_with fail
      go_ret
      exact ⟨rfl, hb1.trans (hb2.mono hb1.size)⟩
  · cases b
    · go_wp2_with fail
      refine (alive_any _).mono ?_
      rintro e w2 ⟨rfl, hb2⟩
      go_wp2_with fail
      go_ret
      exact ⟨rfl, hb1.trans (hb2.mono hb1.size)⟩
    · go_wp2_with fail
      refine (new_any from_ n _ hf).mono ?_
      rintro e w2 ⟨g, m, f, k, rfl, hp, hb2, _, _, rfl, rfl⟩
      have hb12 := hb1.trans (hb2.mono hb1.size)
      by_cases hz : from_ < 0
      · have HK := Lib.hid (show (if from_ < 0 ∨ 4096 < from_ ∨ n < 0 then 0 else min n 4096) = 0 from if_pos (.inl hz))
        rw [HK.out] at hp
        go_wp2_with fail
        refine (alive_any _).mono ?_
        rintro e w3 ⟨rfl, hb3⟩
        have hp3 := hp.below hb3
        have hb13 := hb12.trans (hb3.mono hb12.size)
        go_wp2_with fail
        refine (size_any g m _ _ _ _ hp3).mono ?_
        rintro e w4 ⟨rfl, rfl⟩
        go_wp2_with fail
        refine (size_any g m _ _ _ _ hp3).mono ?_
        rintro e w4 ⟨rfl, rfl⟩
        go_wp2_with fail
        go_ret
        exact ⟨rfl, hb13⟩
      · by_cases hz2 : 4096 < from_
        · have HK := Lib.hid (show (if from_ < 0 ∨ 4096 < from_ ∨ n < 0 then 0 else min n 4096) = 0 from if_pos (.inr (.inl hz2)))
          rw [HK.out] at hp
          go_wp2_with fail
          refine (alive_any _).mono ?_
          rintro e w3 ⟨rfl, hb3⟩
          have hp3 := hp.below hb3
          have hb13 := hb12.trans (hb3.mono hb12.size)
          go_wp2_with fail
          refine (size_any g m _ _ _ _ hp3).mono ?_
          rintro e w4 ⟨rfl, rfl⟩
          go_wp2_with fail
          refine (size_any g m _ _ _ _ hp3).mono ?_
          rintro e w4 ⟨rfl, rfl⟩
          go_wp2_with fail
          go_ret
          exact ⟨rfl, hb13⟩
        · have HK := Lib.hid (show (if from_ < 0 ∨ 4096 < from_ ∨ n < 0 then 0 else min n 4096) = 4096 from by rw [if_neg (by omega)]; omega)
          rw [HK.out] at hp
          go_wp2_with fail
          refine (alive_any _).mono ?_
          rintro e w3 ⟨rfl, hb3⟩
          have hp3 := hp.below hb3
          have hb13 := hb12.trans (hb3.mono hb12.size)
          go_wp2_with fail
          refine (size_any g m _ _ _ _ hp3).mono ?_
          rintro e w4 ⟨rfl, rfl⟩
          go_wp2_with fail
          go_ret
          exact ⟨rfl, hb13⟩
end Go.Proofs.Ytcglbbabfkbcbac
