/-
  right: all cases.
-/
import Derived.Test.YtdlmipoeeiaapaaTableRightA
import Derived.Test.YtdlmipoeeiaapaaTableRightB
import Derived.Test.YtdlmipoeeiaapaaTableRightC
namespace Go.Proofs.Ytdlmipoeeiaapaa
open Go.RowKit Go.Maps

set_option maxRecDepth 100000 in
set_option maxHeartbeats 4000000 in
theorem right_d {g : Nat} {ev : Int} (r : Rc) (w : World) (c0 : w.cell? ⟨g, 0, none⟩ = some (.int .i64 ev)) (hs : r.nm.size ≤ maxLen) (ht : -9223372036854775808 ≤ r.st ∧ r.st ≤ 9223372036854775807) (he : -9223372036854775808 ≤ ev ∧ ev ≤ 9223372036854775807) (hv : validB r.nm.toList = true) (h0 : 0 ≤ r.st) (ho : onB r.st ev = true) : Calls Try.prog 31 #[.pointer (some ⟨g, 0, none⟩), r.val] w fun e w' => e = .returned (.bool (rightR ev r)) ∧ Below w.heap.size w w' := by
  have hlt := World.block_lt_of_cell? w _ c0
  simp only at hlt
  have HS := Lib.hid hs
  have HT : Hid (_ ∧ _) := Lib.hid ⟨ht, he⟩
  clear hs
  have HV := Lib.hid (show ([r.nm].all fun s => validB s.toList) = true from by simp [hv])
  cases hg : validG r.ag
  · have HO := Lib.hid ho
    have HG := Lib.hid hg
    have HF := Lib.hid (show rightR ev r = false from by unfold rightR; simp [hg])
    clear ho hv hg
    go_enter Try.func31, Try.ntmps31
    go_wp2
    have cD : ((w.alloc (.cells #[.string r.nm, .int .i64 r.st, .int .i64 r.ag.c, .int .i64 r.ag.hi, .int .u64 r.ag.lo, .int .i64 r.ag.mn, .int .i64 r.ag.mx] 34)).drew).cell? ⟨g, 0, none⟩ = some (.int .i64 ev) := cell_keep c0
    go_region_held3 (fun w' => w'.cell? ⟨w.heap.size, 0, none⟩ = some (.string r.nm) ∧ w'.cell? ⟨w.heap.size, 1, none⟩ = some (.int .i64 r.st) ∧ w'.cell? ⟨w.heap.size, 2, none⟩ = some (.int .i64 r.ag.c) ∧ w'.cell? ⟨w.heap.size, 3, none⟩ = some (.int .i64 r.ag.hi) ∧ w'.cell? ⟨w.heap.size, 4, none⟩ = some (.int .u64 r.ag.lo) ∧ w'.cell? ⟨w.heap.size, 5, none⟩ = some (.int .i64 r.ag.mn) ∧ w'.cell? ⟨w.heap.size, 6, none⟩ = some (.int .i64 r.ag.mx) ∧ w'.cell? ⟨g, 0, none⟩ = some (.int .i64 ev))
      (first | (go_split_ands; refine ⟨?_, ?_, ?_, ?_, ?_, ?_, ?_, ?_⟩ <;> first | assumption | (refine cell_keep ?_; assumption) | (simp [go_sem]; done)))
      (first
        | (go_at_call 49; refine (valid_any (some ⟨_, 0, none⟩) 1 1 [r.nm] _ (by decide) rfl (by simpa using HS.out) (fun _ => ⟨_, 0, rfl, one_cell (by simp [go_sem])⟩)).mono ?_; rw [HV.out]; rintro e w' ⟨rfl, rfl⟩)
        | (go_at_call 50; refine (on_any r.st ev _ HT.out.1 HT.out.2).mono ?_; rw [HO.out]; rintro e w' ⟨rfl, rfl⟩)
        | (go_at_call 51; refine (validG_any r.ag _).mono ?_; rw [HG.out]; rintro e w' ⟨rfl, rfl⟩))
    go_wp2
    go_ret
    exact ⟨ret_bool HF.out.symm, by repeat (first | exact Below.refl _ _ | refine Below.drew ?_ | refine Below.alloc ?_ (by simp; try omega) _)⟩
  · have HO := Lib.hid ho
    have HG := Lib.hid hg
    have HF := Lib.hid (show rightR ev r = true from by unfold rightR; simp [hg, ho, hv, h0])
    clear ho hv hg
    go_enter Try.func31, Try.ntmps31
    go_wp2
    have cD : ((w.alloc (.cells #[.string r.nm, .int .i64 r.st, .int .i64 r.ag.c, .int .i64 r.ag.hi, .int .u64 r.ag.lo, .int .i64 r.ag.mn, .int .i64 r.ag.mx] 34)).drew).cell? ⟨g, 0, none⟩ = some (.int .i64 ev) := cell_keep c0
    go_region_held3 (fun w' => w'.cell? ⟨w.heap.size, 0, none⟩ = some (.string r.nm) ∧ w'.cell? ⟨w.heap.size, 1, none⟩ = some (.int .i64 r.st) ∧ w'.cell? ⟨w.heap.size, 2, none⟩ = some (.int .i64 r.ag.c) ∧ w'.cell? ⟨w.heap.size, 3, none⟩ = some (.int .i64 r.ag.hi) ∧ w'.cell? ⟨w.heap.size, 4, none⟩ = some (.int .u64 r.ag.lo) ∧ w'.cell? ⟨w.heap.size, 5, none⟩ = some (.int .i64 r.ag.mn) ∧ w'.cell? ⟨w.heap.size, 6, none⟩ = some (.int .i64 r.ag.mx) ∧ w'.cell? ⟨g, 0, none⟩ = some (.int .i64 ev))
      (first | (go_split_ands; refine ⟨?_, ?_, ?_, ?_, ?_, ?_, ?_, ?_⟩ <;> first | assumption | (refine cell_keep ?_; assumption) | (simp [go_sem]; done)))
      (first
        | (go_at_call 49; refine (valid_any (some ⟨_, 0, none⟩) 1 1 [r.nm] _ (by decide) rfl (by simpa using HS.out) (fun _ => ⟨_, 0, rfl, one_cell (by simp [go_sem])⟩)).mono ?_; rw [HV.out]; rintro e w' ⟨rfl, rfl⟩)
        | (go_at_call 50; refine (on_any r.st ev _ HT.out.1 HT.out.2).mono ?_; rw [HO.out]; rintro e w' ⟨rfl, rfl⟩)
        | (go_at_call 51; refine (validG_any r.ag _).mono ?_; rw [HG.out]; rintro e w' ⟨rfl, rfl⟩))
    go_wp2
    go_ret
    exact ⟨ret_bool HF.out.symm, by repeat (first | exact Below.refl _ _ | refine Below.drew ?_ | refine Below.alloc ?_ (by simp; try omega) _)⟩
theorem right_any {g : Nat} {ev : Int} (r : Rc) (w : World) (c0 : w.cell? ⟨g, 0, none⟩ = some (.int .i64 ev)) (hs : r.nm.size ≤ maxLen) (ht : -9223372036854775808 ≤ r.st ∧ r.st ≤ 9223372036854775807) (he : -9223372036854775808 ≤ ev ∧ ev ≤ 9223372036854775807) : Calls Try.prog 31 #[.pointer (some ⟨g, 0, none⟩), r.val] w fun e w' => e = .returned (.bool (rightR ev r)) ∧ Below w.heap.size w w' := by
  cases hv : validB r.nm.toList
  · exact right_a r w c0 hs ht he hv
  · by_cases h0 : 0 ≤ r.st
    · cases ho : onB r.st ev
      · exact right_c r w c0 hs ht he hv h0 ho
      · exact right_d r w c0 hs ht he hv h0 ho
    · exact right_b r w c0 hs ht he hv h0
end Go.Proofs.Ytdlmipoeeiaapaa
