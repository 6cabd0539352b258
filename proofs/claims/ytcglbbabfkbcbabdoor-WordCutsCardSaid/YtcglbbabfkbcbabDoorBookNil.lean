/-
  sedimentbook at kinds that hold no list: still, put, grow, marked. (gen_nil.py prints this.)
-/
import Derived.Test.YtcglbbabfkbcbabDoorBox
import Derived.Deep.QuietTactic
import Derived.Deep.RegionHeld3
import Derived.WalkSpells
import Derived.WalkLawsBesides
import Derived.Lib.Hide
import Derived.Outline
import Derived.Deep.Cut
namespace Go.Proofs.YtcglbbabfkbcbabDoor
open Go.RowKit

theorem stillNilTexts_any (g : Nat) (fs : Array Value) (w : World) (hB : Bx w g 41 fs) (e1 : fs[0]? = some (.slice none 0 0)) :
    Calls Tryd.prog 18 #[.pointer (some ⟨g, 0, none⟩)] w fun e w' => e = .returned (.bool true) ∧ ∃ q, w' = w.drewN q := by
  have x0 := hB.at_ 0 e1
  go_enter Tryd.func18, Tryd.ntmps18
  go_wp2
  obtain ⟨w6, hw6⟩ : ∃ w6, w6 = w := ⟨_, rfl⟩
  subst hw6
  go_loopw [3] (fun i wr => i = .int .i64 0 ∧ wr = w6) (fun _ _ => 0)
  case atStart => exact ⟨rfl, rfl⟩
  case round =>
    obtain ⟨rfl, rfl⟩ := hrel
    go_wp2
    go_ret
    exact ⟨rfl, 0, rfl⟩
theorem putNilTexts_any (g : Nat) (fs : Array Value) (w : World) (hB : Bx w g 41 fs) (e1 : fs[0]? = some (.slice none 0 0)) :
    Calls Tryd.prog 27 #[.pointer (some ⟨g, 0, none⟩)] w fun e w' => e = .returned (.tuple #[]) ∧ w = w' := by
  have x0 := hB.at_ 0 e1
  go_enter Tryd.func27, Tryd.ntmps27
  go_wp2
  obtain ⟨w6, hw6⟩ : ∃ w6, w6 = w := ⟨_, rfl⟩
  subst hw6
  go_loopw [2, 3, 4] (fun i _ _ wr => i = .int .i64 0 ∧ wr = w6) (fun _ _ _ _ => 0)
  case atStart => exact ⟨rfl, rfl⟩
  case round =>
    obtain ⟨rfl, rfl⟩ := hrel
    go_wp2
    go_end0
    exact ⟨rfl, rfl⟩
theorem growNilTexts_any (g : Nat) (fs : Array Value) (w : World) (hB : Bx w g 41 fs) (e1 : fs[0]? = some (.slice none 0 0)) :
    Calls Tryd.prog 34 #[.pointer (some ⟨g, 0, none⟩)] w fun e w' => e = .returned (.slice none 0 0) ∧ w = w' := by
  have x0 := hB.at_ 0 e1
  go_enter Tryd.func34, Tryd.ntmps34
  go_wp2
  obtain ⟨w6, hw6⟩ : ∃ w6, w6 = w := ⟨_, rfl⟩
  subst hw6
  go_loopw [3, 4, 5, 6] (fun v i _ _ wr => v = .slice none 0 0 ∧ i = .int .i64 0 ∧ wr = w6) (fun _ _ _ _ _ => 0)
  case atStart => exact ⟨rfl, rfl, rfl⟩
  case round =>
    obtain ⟨rfl, rfl, rfl⟩ := hrel
    go_wp2
    go_ret
    exact ⟨rfl, rfl⟩
theorem markedNilTexts_any (w : World) : Calls Tryd.prog 42 #[.slice none 0 0] w fun e w' => e = .returned (.bool true) ∧ w = w' := by
  go_enter Tryd.func42, Tryd.ntmps42
  go_wp2
  obtain ⟨w6, hw6⟩ : ∃ w6, w6 = w := ⟨_, rfl⟩
  subst hw6
  go_loopw [3] (fun i wr => i = .int .i64 0 ∧ wr = w6) (fun _ _ => 0)
  case atStart => exact ⟨rfl, rfl⟩
  case round =>
    obtain ⟨rfl, rfl⟩ := hrel
    go_wp2
    go_ret
    exact ⟨rfl, rfl⟩
theorem stillNilInts_any (g : Nat) (fs : Array Value) (w : World) (hB : Bx w g 41 fs) (e1 : fs[2]? = some (.slice none 0 0)) :
    Calls Tryd.prog 19 #[.pointer (some ⟨g, 0, none⟩)] w fun e w' => e = .returned (.bool true) ∧ ∃ q, w' = w.drewN q := by
  have x0 := hB.at_ 2 e1
  go_enter Tryd.func19, Tryd.ntmps19
  go_wp2
  obtain ⟨w6, hw6⟩ : ∃ w6, w6 = w := ⟨_, rfl⟩
  subst hw6
  go_loopw [3] (fun i wr => i = .int .i64 0 ∧ wr = w6) (fun _ _ => 0)
  case atStart => exact ⟨rfl, rfl⟩
  case round =>
    obtain ⟨rfl, rfl⟩ := hrel
    go_wp2
    go_ret
    exact ⟨rfl, 0, rfl⟩
theorem putNilInts_any (g : Nat) (fs : Array Value) (w : World) (hB : Bx w g 41 fs) (e1 : fs[2]? = some (.slice none 0 0)) :
    Calls Tryd.prog 28 #[.pointer (some ⟨g, 0, none⟩)] w fun e w' => e = .returned (.tuple #[]) ∧ w = w' := by
  have x0 := hB.at_ 2 e1
  go_enter Tryd.func28, Tryd.ntmps28
  go_wp2
  obtain ⟨w6, hw6⟩ : ∃ w6, w6 = w := ⟨_, rfl⟩
  subst hw6
  go_loopw [2, 3, 4] (fun i _ _ wr => i = .int .i64 0 ∧ wr = w6) (fun _ _ _ _ => 0)
  case atStart => exact ⟨rfl, rfl⟩
  case round =>
    obtain ⟨rfl, rfl⟩ := hrel
    go_wp2
    go_end0
    exact ⟨rfl, rfl⟩
theorem growNilInts_any (g : Nat) (fs : Array Value) (w : World) (hB : Bx w g 41 fs) (e1 : fs[2]? = some (.slice none 0 0)) :
    Calls Tryd.prog 35 #[.pointer (some ⟨g, 0, none⟩)] w fun e w' => e = .returned (.slice none 0 0) ∧ w = w' := by
  have x0 := hB.at_ 2 e1
  go_enter Tryd.func35, Tryd.ntmps35
  go_wp2
  obtain ⟨w6, hw6⟩ : ∃ w6, w6 = w := ⟨_, rfl⟩
  subst hw6
  go_loopw [3, 4, 5, 6] (fun v i _ _ wr => v = .slice none 0 0 ∧ i = .int .i64 0 ∧ wr = w6) (fun _ _ _ _ _ => 0)
  case atStart => exact ⟨rfl, rfl, rfl⟩
  case round =>
    obtain ⟨rfl, rfl, rfl⟩ := hrel
    go_wp2
    go_ret
    exact ⟨rfl, rfl⟩
theorem markedNilInts_any (w : World) : Calls Tryd.prog 43 #[.slice none 0 0] w fun e w' => e = .returned (.bool true) ∧ w = w' := by
  go_enter Tryd.func43, Tryd.ntmps43
  go_wp2
  obtain ⟨w6, hw6⟩ : ∃ w6, w6 = w := ⟨_, rfl⟩
  subst hw6
  go_loopw [3] (fun i wr => i = .int .i64 0 ∧ wr = w6) (fun _ _ => 0)
  case atStart => exact ⟨rfl, rfl⟩
  case round =>
    obtain ⟨rfl, rfl⟩ := hrel
    go_wp2
    go_ret
    exact ⟨rfl, rfl⟩
theorem stillNilRecords_any (g : Nat) (fs : Array Value) (w : World) (hB : Bx w g 41 fs) (e1 : fs[4]? = some (.slice none 0 0)) :
    Calls Tryd.prog 20 #[.pointer (some ⟨g, 0, none⟩)] w fun e w' => e = .returned (.bool true) ∧ ∃ q, w' = w.drewN q := by
  have x0 := hB.at_ 4 e1
  go_enter Tryd.func20, Tryd.ntmps20
  go_wp2
  obtain ⟨w6, hw6⟩ : ∃ w6, w6 = w := ⟨_, rfl⟩
  subst hw6
  go_loopw [3] (fun i wr => i = .int .i64 0 ∧ wr = w6) (fun _ _ => 0)
  case atStart => exact ⟨rfl, rfl⟩
  case round =>
    obtain ⟨rfl, rfl⟩ := hrel
    go_wp2
    go_ret
    exact ⟨rfl, 0, rfl⟩
theorem putNilRecords_any (g : Nat) (fs : Array Value) (w : World) (hB : Bx w g 41 fs) (e1 : fs[4]? = some (.slice none 0 0)) :
    Calls Tryd.prog 29 #[.pointer (some ⟨g, 0, none⟩)] w fun e w' => e = .returned (.tuple #[]) ∧ w = w' := by
  have x0 := hB.at_ 4 e1
  go_enter Tryd.func29, Tryd.ntmps29
  go_wp2
  obtain ⟨w6, hw6⟩ : ∃ w6, w6 = w := ⟨_, rfl⟩
  subst hw6
  go_loopw [2, 3, 4] (fun i _ _ wr => i = .int .i64 0 ∧ wr = w6) (fun _ _ _ _ => 0)
  case atStart => exact ⟨rfl, rfl⟩
  case round =>
    obtain ⟨rfl, rfl⟩ := hrel
    go_wp2
    go_end0
    exact ⟨rfl, rfl⟩
theorem growNilRecords_any (g : Nat) (fs : Array Value) (w : World) (hB : Bx w g 41 fs) (e1 : fs[4]? = some (.slice none 0 0)) :
    Calls Tryd.prog 36 #[.pointer (some ⟨g, 0, none⟩)] w fun e w' => e = .returned (.slice none 0 0) ∧ w = w' := by
  have x0 := hB.at_ 4 e1
  go_enter Tryd.func36, Tryd.ntmps36
  go_wp2
  obtain ⟨w6, hw6⟩ : ∃ w6, w6 = w := ⟨_, rfl⟩
  subst hw6
  go_loopw [3, 4, 5, 6] (fun v i _ _ wr => v = .slice none 0 0 ∧ i = .int .i64 0 ∧ wr = w6) (fun _ _ _ _ _ => 0)
  case atStart => exact ⟨rfl, rfl, rfl⟩
  case round =>
    obtain ⟨rfl, rfl, rfl⟩ := hrel
    go_wp2
    go_ret
    exact ⟨rfl, rfl⟩
theorem markedNilRecords_any (w : World) : Calls Tryd.prog 44 #[.slice none 0 0] w fun e w' => e = .returned (.bool true) ∧ w = w' := by
  go_enter Tryd.func44, Tryd.ntmps44
  go_wp2
  obtain ⟨w6, hw6⟩ : ∃ w6, w6 = w := ⟨_, rfl⟩
  subst hw6
  go_loopw [3] (fun i wr => i = .int .i64 0 ∧ wr = w6) (fun _ _ => 0)
  case atStart => exact ⟨rfl, rfl⟩
  case round =>
    obtain ⟨rfl, rfl⟩ := hrel
    go_wp2
    go_ret
    exact ⟨rfl, rfl⟩
theorem stillNilSamples_any (g : Nat) (fs : Array Value) (w : World) (hB : Bx w g 41 fs) (e1 : fs[6]? = some (.slice none 0 0)) :
    Calls Tryd.prog 21 #[.pointer (some ⟨g, 0, none⟩)] w fun e w' => e = .returned (.bool true) ∧ ∃ q, w' = w.drewN q := by
  have x0 := hB.at_ 6 e1
  go_enter Tryd.func21, Tryd.ntmps21
  go_wp2
  obtain ⟨w6, hw6⟩ : ∃ w6, w6 = w := ⟨_, rfl⟩
  subst hw6
  go_loopw [3] (fun i wr => i = .int .i64 0 ∧ wr = w6) (fun _ _ => 0)
  case atStart => exact ⟨rfl, rfl⟩
  case round =>
    obtain ⟨rfl, rfl⟩ := hrel
    go_wp2
    go_ret
    exact ⟨rfl, 0, rfl⟩
theorem putNilSamples_any (g : Nat) (fs : Array Value) (w : World) (hB : Bx w g 41 fs) (e1 : fs[6]? = some (.slice none 0 0)) :
    Calls Tryd.prog 30 #[.pointer (some ⟨g, 0, none⟩)] w fun e w' => e = .returned (.tuple #[]) ∧ w = w' := by
  have x0 := hB.at_ 6 e1
  go_enter Tryd.func30, Tryd.ntmps30
  go_wp2
  obtain ⟨w6, hw6⟩ : ∃ w6, w6 = w := ⟨_, rfl⟩
  subst hw6
  go_loopw [2, 3, 4] (fun i _ _ wr => i = .int .i64 0 ∧ wr = w6) (fun _ _ _ _ => 0)
  case atStart => exact ⟨rfl, rfl⟩
  case round =>
    obtain ⟨rfl, rfl⟩ := hrel
    go_wp2
    go_end0
    exact ⟨rfl, rfl⟩
theorem growNilSamples_any (g : Nat) (fs : Array Value) (w : World) (hB : Bx w g 41 fs) (e1 : fs[6]? = some (.slice none 0 0)) :
    Calls Tryd.prog 37 #[.pointer (some ⟨g, 0, none⟩)] w fun e w' => e = .returned (.slice none 0 0) ∧ w = w' := by
  have x0 := hB.at_ 6 e1
  go_enter Tryd.func37, Tryd.ntmps37
  go_wp2
  obtain ⟨w6, hw6⟩ : ∃ w6, w6 = w := ⟨_, rfl⟩
  subst hw6
  go_loopw [3, 4, 5, 6] (fun v i _ _ wr => v = .slice none 0 0 ∧ i = .int .i64 0 ∧ wr = w6) (fun _ _ _ _ _ => 0)
  case atStart => exact ⟨rfl, rfl, rfl⟩
  case round =>
    obtain ⟨rfl, rfl, rfl⟩ := hrel
    go_wp2
    go_ret
    exact ⟨rfl, rfl⟩
theorem markedNilSamples_any (w : World) : Calls Tryd.prog 45 #[.slice none 0 0] w fun e w' => e = .returned (.bool true) ∧ w = w' := by
  go_enter Tryd.func45, Tryd.ntmps45
  go_wp2
  obtain ⟨w6, hw6⟩ : ∃ w6, w6 = w := ⟨_, rfl⟩
  subst hw6
  go_loopw [3] (fun i wr => i = .int .i64 0 ∧ wr = w6) (fun _ _ => 0)
  case atStart => exact ⟨rfl, rfl⟩
  case round =>
    obtain ⟨rfl, rfl⟩ := hrel
    go_wp2
    go_ret
    exact ⟨rfl, rfl⟩
theorem stillNilTiers_any (g : Nat) (fs : Array Value) (w : World) (hB : Bx w g 41 fs) (e1 : fs[8]? = some (.slice none 0 0)) :
    Calls Tryd.prog 22 #[.pointer (some ⟨g, 0, none⟩)] w fun e w' => e = .returned (.bool true) ∧ ∃ q, w' = w.drewN q := by
  have x0 := hB.at_ 8 e1
  go_enter Tryd.func22, Tryd.ntmps22
  go_wp2
  obtain ⟨w6, hw6⟩ : ∃ w6, w6 = w := ⟨_, rfl⟩
  subst hw6
  go_loopw [3] (fun i wr => i = .int .i64 0 ∧ wr = w6) (fun _ _ => 0)
  case atStart => exact ⟨rfl, rfl⟩
  case round =>
    obtain ⟨rfl, rfl⟩ := hrel
    go_wp2
    go_ret
    exact ⟨rfl, 0, rfl⟩
theorem putNilTiers_any (g : Nat) (fs : Array Value) (w : World) (hB : Bx w g 41 fs) (e1 : fs[8]? = some (.slice none 0 0)) :
    Calls Tryd.prog 31 #[.pointer (some ⟨g, 0, none⟩)] w fun e w' => e = .returned (.tuple #[]) ∧ w = w' := by
  have x0 := hB.at_ 8 e1
  go_enter Tryd.func31, Tryd.ntmps31
  go_wp2
  obtain ⟨w6, hw6⟩ : ∃ w6, w6 = w := ⟨_, rfl⟩
  subst hw6
  go_loopw [2, 3, 4] (fun i _ _ wr => i = .int .i64 0 ∧ wr = w6) (fun _ _ _ _ => 0)
  case atStart => exact ⟨rfl, rfl⟩
  case round =>
    obtain ⟨rfl, rfl⟩ := hrel
    go_wp2
    go_end0
    exact ⟨rfl, rfl⟩
theorem growNilTiers_any (g : Nat) (fs : Array Value) (w : World) (hB : Bx w g 41 fs) (e1 : fs[8]? = some (.slice none 0 0)) :
    Calls Tryd.prog 38 #[.pointer (some ⟨g, 0, none⟩)] w fun e w' => e = .returned (.slice none 0 0) ∧ w = w' := by
  have x0 := hB.at_ 8 e1
  go_enter Tryd.func38, Tryd.ntmps38
  go_wp2
  obtain ⟨w6, hw6⟩ : ∃ w6, w6 = w := ⟨_, rfl⟩
  subst hw6
  go_loopw [3, 4, 5, 6] (fun v i _ _ wr => v = .slice none 0 0 ∧ i = .int .i64 0 ∧ wr = w6) (fun _ _ _ _ _ => 0)
  case atStart => exact ⟨rfl, rfl, rfl⟩
  case round =>
    obtain ⟨rfl, rfl, rfl⟩ := hrel
    go_wp2
    go_ret
    exact ⟨rfl, rfl⟩
theorem markedNilTiers_any (w : World) : Calls Tryd.prog 46 #[.slice none 0 0] w fun e w' => e = .returned (.bool true) ∧ w = w' := by
  go_enter Tryd.func46, Tryd.ntmps46
  go_wp2
  obtain ⟨w6, hw6⟩ : ∃ w6, w6 = w := ⟨_, rfl⟩
  subst hw6
  go_loopw [3] (fun i wr => i = .int .i64 0 ∧ wr = w6) (fun _ _ => 0)
  case atStart => exact ⟨rfl, rfl⟩
  case round =>
    obtain ⟨rfl, rfl⟩ := hrel
    go_wp2
    go_ret
    exact ⟨rfl, rfl⟩
theorem stillNilErrnos_any (g : Nat) (fs : Array Value) (w : World) (hB : Bx w g 41 fs) (e1 : fs[10]? = some (.slice none 0 0)) :
    Calls Tryd.prog 23 #[.pointer (some ⟨g, 0, none⟩)] w fun e w' => e = .returned (.bool true) ∧ ∃ q, w' = w.drewN q := by
  have x0 := hB.at_ 10 e1
  go_enter Tryd.func23, Tryd.ntmps23
  go_wp2
  obtain ⟨w6, hw6⟩ : ∃ w6, w6 = w := ⟨_, rfl⟩
  subst hw6
  go_loopw [3] (fun i wr => i = .int .i64 0 ∧ wr = w6) (fun _ _ => 0)
  case atStart => exact ⟨rfl, rfl⟩
  case round =>
    obtain ⟨rfl, rfl⟩ := hrel
    go_wp2
    go_ret
    exact ⟨rfl, 0, rfl⟩
theorem putNilErrnos_any (g : Nat) (fs : Array Value) (w : World) (hB : Bx w g 41 fs) (e1 : fs[10]? = some (.slice none 0 0)) :
    Calls Tryd.prog 32 #[.pointer (some ⟨g, 0, none⟩)] w fun e w' => e = .returned (.tuple #[]) ∧ w = w' := by
  have x0 := hB.at_ 10 e1
  go_enter Tryd.func32, Tryd.ntmps32
  go_wp2
  obtain ⟨w6, hw6⟩ : ∃ w6, w6 = w := ⟨_, rfl⟩
  subst hw6
  go_loopw [2, 3, 4] (fun i _ _ wr => i = .int .i64 0 ∧ wr = w6) (fun _ _ _ _ => 0)
  case atStart => exact ⟨rfl, rfl⟩
  case round =>
    obtain ⟨rfl, rfl⟩ := hrel
    go_wp2
    go_end0
    exact ⟨rfl, rfl⟩
theorem growNilErrnos_any (g : Nat) (fs : Array Value) (w : World) (hB : Bx w g 41 fs) (e1 : fs[10]? = some (.slice none 0 0)) :
    Calls Tryd.prog 39 #[.pointer (some ⟨g, 0, none⟩)] w fun e w' => e = .returned (.slice none 0 0) ∧ w = w' := by
  have x0 := hB.at_ 10 e1
  go_enter Tryd.func39, Tryd.ntmps39
  go_wp2
  obtain ⟨w6, hw6⟩ : ∃ w6, w6 = w := ⟨_, rfl⟩
  subst hw6
  go_loopw [3, 4, 5, 6] (fun v i _ _ wr => v = .slice none 0 0 ∧ i = .int .i64 0 ∧ wr = w6) (fun _ _ _ _ _ => 0)
  case atStart => exact ⟨rfl, rfl, rfl⟩
  case round =>
    obtain ⟨rfl, rfl, rfl⟩ := hrel
    go_wp2
    go_ret
    exact ⟨rfl, rfl⟩
theorem markedNilErrnos_any (w : World) : Calls Tryd.prog 47 #[.slice none 0 0] w fun e w' => e = .returned (.bool true) ∧ w = w' := by
  go_enter Tryd.func47, Tryd.ntmps47
  go_wp2
  obtain ⟨w6, hw6⟩ : ∃ w6, w6 = w := ⟨_, rfl⟩
  subst hw6
  go_loopw [3] (fun i wr => i = .int .i64 0 ∧ wr = w6) (fun _ _ => 0)
  case atStart => exact ⟨rfl, rfl⟩
  case round =>
    obtain ⟨rfl, rfl⟩ := hrel
    go_wp2
    go_ret
    exact ⟨rfl, rfl⟩
theorem stillNilWords_any (g : Nat) (fs : Array Value) (w : World) (hB : Bx w g 41 fs) (e1 : fs[12]? = some (.slice none 0 0)) :
    Calls Tryd.prog 24 #[.pointer (some ⟨g, 0, none⟩)] w fun e w' => e = .returned (.bool true) ∧ ∃ q, w' = w.drewN q := by
  have x0 := hB.at_ 12 e1
  go_enter Tryd.func24, Tryd.ntmps24
  go_wp2
  obtain ⟨w6, hw6⟩ : ∃ w6, w6 = w := ⟨_, rfl⟩
  subst hw6
  go_loopw [3] (fun i wr => i = .int .i64 0 ∧ wr = w6) (fun _ _ => 0)
  case atStart => exact ⟨rfl, rfl⟩
  case round =>
    obtain ⟨rfl, rfl⟩ := hrel
    go_wp2
    go_ret
    exact ⟨rfl, 0, rfl⟩
theorem putNilWords_any (g : Nat) (fs : Array Value) (w : World) (hB : Bx w g 41 fs) (e1 : fs[12]? = some (.slice none 0 0)) :
    Calls Tryd.prog 33 #[.pointer (some ⟨g, 0, none⟩)] w fun e w' => e = .returned (.tuple #[]) ∧ w = w' := by
  have x0 := hB.at_ 12 e1
  go_enter Tryd.func33, Tryd.ntmps33
  go_wp2
  obtain ⟨w6, hw6⟩ : ∃ w6, w6 = w := ⟨_, rfl⟩
  subst hw6
  go_loopw [2, 3, 4] (fun i _ _ wr => i = .int .i64 0 ∧ wr = w6) (fun _ _ _ _ => 0)
  case atStart => exact ⟨rfl, rfl⟩
  case round =>
    obtain ⟨rfl, rfl⟩ := hrel
    go_wp2
    go_end0
    exact ⟨rfl, rfl⟩
theorem growNilWords_any (g : Nat) (fs : Array Value) (w : World) (hB : Bx w g 41 fs) (e1 : fs[12]? = some (.slice none 0 0)) :
    Calls Tryd.prog 40 #[.pointer (some ⟨g, 0, none⟩)] w fun e w' => e = .returned (.slice none 0 0) ∧ w = w' := by
  have x0 := hB.at_ 12 e1
  go_enter Tryd.func40, Tryd.ntmps40
  go_wp2
  obtain ⟨w6, hw6⟩ : ∃ w6, w6 = w := ⟨_, rfl⟩
  subst hw6
  go_loopw [3, 4, 5, 6] (fun v i _ _ wr => v = .slice none 0 0 ∧ i = .int .i64 0 ∧ wr = w6) (fun _ _ _ _ _ => 0)
  case atStart => exact ⟨rfl, rfl, rfl⟩
  case round =>
    obtain ⟨rfl, rfl, rfl⟩ := hrel
    go_wp2
    go_ret
    exact ⟨rfl, rfl⟩
theorem markedNilWords_any (w : World) : Calls Tryd.prog 48 #[.slice none 0 0] w fun e w' => e = .returned (.bool true) ∧ w = w' := by
  go_enter Tryd.func48, Tryd.ntmps48
  go_wp2
  obtain ⟨w6, hw6⟩ : ∃ w6, w6 = w := ⟨_, rfl⟩
  subst hw6
  go_loopw [3] (fun i wr => i = .int .i64 0 ∧ wr = w6) (fun _ _ => 0)
  case atStart => exact ⟨rfl, rfl⟩
  case round =>
    obtain ⟨rfl, rfl⟩ := hrel
    go_wp2
    go_ret
    exact ⟨rfl, rfl⟩
theorem stillNilSteps_any (g : Nat) (fs : Array Value) (w : World) (hB : Bx w g 41 fs) (e1 : fs[14]? = some (.slice none 0 0)) :
    Calls Tryd.prog 25 #[.pointer (some ⟨g, 0, none⟩)] w fun e w' => e = .returned (.bool true) ∧ ∃ q, w' = w.drewN q := by
  have x0 := hB.at_ 14 e1
  go_enter Tryd.func25, Tryd.ntmps25
  go_wp2
  obtain ⟨w6, hw6⟩ : ∃ w6, w6 = w := ⟨_, rfl⟩
  subst hw6
  go_loopw [3] (fun i wr => i = .int .i64 0 ∧ wr = w6) (fun _ _ => 0)
  case atStart => exact ⟨rfl, rfl⟩
  case round =>
    obtain ⟨rfl, rfl⟩ := hrel
    go_wp2
    go_ret
    exact ⟨rfl, 0, rfl⟩
theorem putNilSteps_any (g : Nat) (fs : Array Value) (w : World) (hB : Bx w g 41 fs) (e1 : fs[14]? = some (.slice none 0 0)) :
    Calls Tryd.prog 26 #[.pointer (some ⟨g, 0, none⟩)] w fun e w' => e = .returned (.tuple #[]) ∧ w = w' := by
  have x0 := hB.at_ 14 e1
  go_enter Tryd.func26, Tryd.ntmps26
  go_wp2
  obtain ⟨w6, hw6⟩ : ∃ w6, w6 = w := ⟨_, rfl⟩
  subst hw6
  go_loopw [2, 3, 4] (fun i _ _ wr => i = .int .i64 0 ∧ wr = w6) (fun _ _ _ _ => 0)
  case atStart => exact ⟨rfl, rfl⟩
  case round =>
    obtain ⟨rfl, rfl⟩ := hrel
    go_wp2
    go_end0
    exact ⟨rfl, rfl⟩
theorem growNilSteps_any (g : Nat) (fs : Array Value) (w : World) (hB : Bx w g 41 fs) (e1 : fs[14]? = some (.slice none 0 0)) :
    Calls Tryd.prog 41 #[.pointer (some ⟨g, 0, none⟩)] w fun e w' => e = .returned (.slice none 0 0) ∧ w = w' := by
  have x0 := hB.at_ 14 e1
  go_enter Tryd.func41, Tryd.ntmps41
  go_wp2
  obtain ⟨w6, hw6⟩ : ∃ w6, w6 = w := ⟨_, rfl⟩
  subst hw6
  go_loopw [3, 4, 5, 6] (fun v i _ _ wr => v = .slice none 0 0 ∧ i = .int .i64 0 ∧ wr = w6) (fun _ _ _ _ _ => 0)
  case atStart => exact ⟨rfl, rfl, rfl⟩
  case round =>
    obtain ⟨rfl, rfl, rfl⟩ := hrel
    go_wp2
    go_ret
    exact ⟨rfl, rfl⟩
theorem markedNilSteps_any (w : World) : Calls Tryd.prog 49 #[.slice none 0 0] w fun e w' => e = .returned (.bool true) ∧ w = w' := by
  go_enter Tryd.func49, Tryd.ntmps49
  go_wp2
  obtain ⟨w6, hw6⟩ : ∃ w6, w6 = w := ⟨_, rfl⟩
  subst hw6
  go_loopw [3] (fun i wr => i = .int .i64 0 ∧ wr = w6) (fun _ _ => 0)
  case atStart => exact ⟨rfl, rfl⟩
  case round =>
    obtain ⟨rfl, rfl⟩ := hrel
    go_wp2
    go_ret
    exact ⟨rfl, rfl⟩
end Go.Proofs.YtcglbbabfkbcbabDoor
