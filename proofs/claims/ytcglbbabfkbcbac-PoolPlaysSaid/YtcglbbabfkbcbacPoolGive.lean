/-
  pool: Give, Mark.
-/
import Derived.Test.YtcglbbabfkbcbacPoolTake2
namespace Go.Proofs.Ytcglbbabfkbcbac
open Go.RowKit Go.Maps

/-- One block given back: the set, and how many were. -/
def giveStep (s : List Int × Int) (z : Int) : List Int × Int := if z ∈ s.1 then (s.1.filter (fun x => decide (x ≠ z)), s.2 + 1) else s
def giveAll (us : List Int) (zs : List Int) : List Int × Int := zs.foldl giveStep (us, 0)
theorem giveAll_snoc (us zs : List Int) (z : Int) : giveAll us (zs ++ [z]) = giveStep (giveAll us zs) z := by simp [giveAll, List.foldl_append]
theorem give_bd (us : List Int) : ∀ zs : List Int, 0 ≤ (giveAll us zs).2 ∧ (giveAll us zs).2 ≤ zs.length := by
  intro zs
  obtain ⟨ys, rfl⟩ : ∃ ys : List Int, zs = ys.reverse := ⟨zs.reverse, by simp⟩
  induction ys with
  | nil => simp [giveAll]
  | cons y r ih =>
    rw [List.reverse_cons, giveAll_snoc]
    unfold giveStep
    split <;> simp only [List.length_append, List.length_cons, List.length_nil] <;> omega
theorem del_own {w : World} {b n : Nat} {us : List Int} {z : Int} (h : w.ownsMap Try.prog 3 (unitElem (H := Unit)) b n ((setD us).del (.int .i64 z))) (hr : Rising us) : SetAt w b (us.filter fun x => decide (x ≠ z)) := by
  rw [del_setD] at h
  exact SetAt.of_own h (List.Pairwise.filter _ hr)
set_option maxRecDepth 100000 in
set_option maxHeartbeats 1000000 in
theorem give_any (g m : Nat) (f n : Int) (us : List Int) (A : Option Addr) (k c : Nat) (zs : List Int) (w : World) (h : PoolAt w g m f n us) (hz : Ints w .i64 A k zs) :
    Calls Try.prog 11 #[.pointer (some ⟨g, 0, none⟩), .slice A k c] w fun e w' => e = .returned (.int .i64 (giveAll us zs).2) ∧ PoolAt w' g m f n (giveAll us zs).1 ∧ w.grownBy w' (some m) := by
  have hn := hz.n_le
  have HL := Lib.hid hz.len
  unfold maxLen at hn
  go_enter Try.func11, Try.ntmps11
  go_wp2
  go_loopw [5, 10] (fun q i wr => ∃ j : Nat, j ≤ k ∧ i = .int .i64 j ∧ q = .int .i64 (giveAll us (zs.take j)).2 ∧ PoolAt wr g m f n (giveAll us (zs.take j)).1 ∧ w.grownBy wr (some m)) (fun _ i _ => k - (intOf i).toNat)
  case atStart => exact ⟨0, Nat.zero_le _, rfl, rfl, h, World.grownBy.refl _ _⟩
  case round =>
    obtain ⟨j, hj, rfl, rfl, hp, hgr⟩ := hrel
    by_cases hlt : j < k
    · have K : j < zs.length := by rw [HL.out]; exact hlt
      obtain ⟨b, off, rfl, hb, hc⟩ := (ints_keep hz hgr h.set.nocell).get K
      have hwf := hz.wf _ (List.getElem_mem K)
      have HN := Lib.hid (show giveAll us (zs.take (j + 1)) = giveStep (giveAll us (zs.take j)) zs[j] from by rw [List.take_succ_eq_append_getElem K, giveAll_snoc])
      have hbd := give_bd us (zs.take j)
      rw [List.length_take] at hbd
      obtain ⟨hbd1, hbd2⟩ := hbd
      have hbd3 : (giveAll us (zs.take j)).2 ≤ j := by omega
      clear hbd2
      generalize giveAll us (zs.take j) = S at *
      generalize zs[j]'K = z at *
      by_cases hu : z ∈ S.1
      · have HX := Lib.hid (show giveStep S z = (S.1.filter (fun x => decide (x ≠ z)), S.2 + 1) from if_pos hu)
        have HU := Lib.hid (decide_eq_true hu)
        clear hu
        go_wp2_with fail
        refine (has_any g m f n S.1 z wr hp hwf).mono ?_
        rintro e w2 ⟨rfl, hb2⟩
        rw [HU.out]
        have hp2 := hp.below hb2
        obtain ⟨c0, c1, c2⟩ := hp2.cells
        have hown := hp2.set.own
        go_wp2_with (at_delete; refine wpList_delete_own _ rfl _ _ 28 3 rfl 58 int_law Try.underlying28 _ m _ (setD S.1) rfl hown _ _ rfl (keyOf_int_mk Try.underlying3 hwf) ?_; intro w3 hown3 hturn3)
        have hg3 := hturn3.grown
        have hp3 : PoolAt w3 g m f n (giveAll us (zs.take (j + 1))).1 := by
          rw [HN.out, HX.out]
          exact ⟨hp2.blk.keep (hg3.block g hp2.lt (fun e => hp.ne (by injection e))), del_own hown3 hp.set.rising, hp.rng, fun z hz' => hp.ins z (List.mem_filter.1 hz').1⟩
        have hgr3 := grown_trans' hgr (grown_trans' (grown_of_below hb2 _) hg3)
        clear hown3 hturn3 hg3
        go_wp2
        go_roundw
        case rel => exact ⟨j + 1, by omega, by go_num, by rw [HN.out, HX.out], hp3, hgr3⟩
        case measure => simp [intOf]; omega
      · have HX := Lib.hid (show giveStep S z = S from if_neg hu)
        have HU := Lib.hid (decide_eq_false hu)
        clear hu
        go_wp2_with fail
        refine (has_any g m f n S.1 z wr hp hwf).mono ?_
        rintro e w2 ⟨rfl, hb2⟩
        rw [HU.out]
        go_wp2
        go_roundw
        case rel => exact ⟨j + 1, by omega, by go_num, by rw [HN.out, HX.out], by rw [HN.out, HX.out]; exact hp.below hb2, grown_trans' hgr (grown_of_below hb2 _)⟩
        case measure => simp [intOf]; omega
    · have e1 := Lib.hid (show zs.take j = zs from List.take_of_length_le (by rw [HL.out]; omega))
      go_wp2
      go_ret
      rw [e1.out] at hp
      exact ⟨by rw [e1.out]; rfl, hp, hgr⟩
end Go.Proofs.Ytcglbbabfkbcbac
