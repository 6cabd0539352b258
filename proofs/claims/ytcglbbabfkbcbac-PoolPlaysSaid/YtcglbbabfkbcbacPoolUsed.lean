/-
  pool: Used: the used blocks, rising.
-/
import Derived.Test.YtcglbbabfkbcbacShelf
import Derived.Test.YtcglbbabfkbcbacPool
namespace Go.Proofs.Ytcglbbabfkbcbac
open Go.RowKit Go.Maps Go.Sort Go.Shelf

/-- What Used tells. -/
def UsedSaid : Prop := ∀ (g m : Nat) (f n : Int) (us : List Int) (w : World), PoolAt w g m f n us →
  Calls Try.prog 14 #[.pointer (some ⟨g, 0, none⟩)] w fun e w' => ∃ v, e = .returned v ∧ w'.ownsRow w.heap.size 3 1 v us.length (us.map (Value.int .i64)) ∧ Below w.heap.size w w'
theorem sortsA (q : Nat) : AnyZI.SortsIn Try.prog Try.sortedA_ren Fence.wide q :=
  ⟨fun blk off cap ss W hH hblk hsz => callsIn_wide.2 (AnyM.slices_Sort_int Try.sortA blk off cap ss W hH hblk hsz),
   fun p cap W => callsIn_wide.2 (AnyM.slices_Sort_int_none Try.sortA p cap W)⟩
theorem intKeys_setD (us : List Int) : intKeys (setD (H := Unit) us) = us := by
  unfold setD intKeys
  simp only [List.map_map]
  conv => rhs; rw [← List.map_id us]
  apply List.map_congr_left
  intro x _; rfl
theorem sorted_perm {us ss : List Int} (hr : Rising us) (hp : ss.Perm us) : ss.mergeSort (fun x y => decide (x ≤ y)) = us := by
  have h1 : (ss.mergeSort (fun x y => decide (x ≤ y))).Perm us := (List.mergeSort_perm _ _).trans hp
  have h2 := List.pairwise_mergeSort (le := fun x y : Int => decide (x ≤ y)) (fun a b c h1 h2 => by simp at *; omega) (fun a b => by simp; omega) ss
  refine rising_ext ?_ hr (fun x => h1.mem_iff)
  have hn : (ss.mergeSort (fun x y => decide (x ≤ y))).Nodup := h1.symm.nodup hr.nodup
  unfold Rising
  rw [List.pairwise_iff_getElem] at h2 ⊢
  intro i j hi hj hij
  have a := h2 i j hi hj hij
  have b := (List.pairwise_iff_getElem.1 hn) i j hi hj hij
  simp at a; omega
set_option maxHeartbeats 1000000 in
theorem used_any : UsedSaid := by
  intro g m f n us w h
  refine (callsIn_wide (n := 6)).1 ?_
  obtain ⟨c0, c1, c2⟩ := h.cells
  have hbl := h.set.lt
  have hsz := h.size_le
  obtain ⟨_, _, _, h4096, _⟩ := h.rng
  have hmax : Maps.size (setD (H := Unit) us) ≤ maxLen := by rw [size_setD]; unfold maxLen; omega
  have hbytes : Maps.size (setD (H := Unit) us) * 8 ≤ 140737488355328 := by rw [size_setD]; omega
  have hseq : SeqGives Fence.wide 2 Try.prog 61 #[.pointer (some ⟨w.heap.size, 0, none⟩)] encZ (fun ss => ss.Perm (intKeys (setD (H := Unit) us))) (Maps.size (setD (H := Unit) us)) (w.alloc (.cells #[.map (some m)] 28)) :=
    AnyZI.keys_gives (ρ := Try.keysA_ren) { Try.keysA with } Fence.wide _ trivial rfl (by omega) w.heap.size m us.length (setD us) _ (by simp) (by simp) (by
      obtain ⟨es, clock, hb, Ft, hs, hD⟩ := h.set.own
      exact ⟨es, clock, (Below.heap_alloc _ _ m hbl).trans hb, Ft, hs, hD⟩)
  have cK : ∀ mb W, CallsIn Fence.wide 5 Try.prog 25 #[.map mb] W fun e w' => e = .returned (.func (.func 61) #[] #[.pointer (some ⟨W.heap.size, 0, none⟩)]) ∧ w' = W.alloc (.cells #[.map mb] 28) := fun mb W => AnyZI.keys_in Try.keysA Fence.wide 5 trivial rfl mb W
  have cS := AnyZI.sorted_in Try.sortedA Fence.wide 5 trivial trivial trivial trivial rfl (by omega) (sortsA _) (enters_of Try.func60 (by kernel_rfl) rfl) 61 #[.pointer (some ⟨w.heap.size, 0, none⟩)] trivial (enters_of Try.func61 (by kernel_rfl) rfl) _ _ hmax hbytes _ hseq
  change CallsIn _ _ Try.prog 24 _ _ _ at cS
  have hfK : Fence.wide.fn 25 := trivial
  have hfS : Fence.wide.fn 24 := trivial
  clear hseq hmax hbytes
  refine callsIn_of_wp Try.func14 rfl trivial ?_ rfl
  simp only [Try.ntmps14, List.size_toArray, List.length_cons, List.length_nil, Nat.reduceAdd, Nat.reduceSub, Array.replicate_succ, Array.replicate_zero, List.push_toArray, List.append_toArray, List.nil_append, List.cons_append]
  gi_wp2_with (first
    | (gi_at_call 25; refine (cK _ _).mono ?_; rintro e w' ⟨rfl, rfl⟩)
    | (gi_at_call 24; refine cS.mono ?_; rintro e w' ⟨v, ss, rfl, hS, hrow, hnil, hb⟩))
  go_ret
  rw [intKeys_setD] at hS
  have hlen : ss.length = us.length := hS.length_eq
  have hso := sorted_perm h.set.rising hS
  rw [hso, hlen] at hrow
  exact ⟨v, rfl, ownsRow_base_a hrow (by simp), ((Below.refl _ w).alloc (Nat.le_refl _) _).trans (hb.mono (by simp))⟩
end Go.Proofs.Ytcglbbabfkbcbac
