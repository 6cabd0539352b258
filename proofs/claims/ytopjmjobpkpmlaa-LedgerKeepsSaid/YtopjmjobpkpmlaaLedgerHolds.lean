/-
  The package ledger: Holds, Owners, New.
-/
import Derived.Test.YtopjmjobpkpmlaaLedgerOut
import Derived.Test.YtopjmjobpkpmlaaShelf
namespace Go.Proofs.Ytopjmjobpkpmlaa
open Go.RowKit Go.Maps Go.Sort Go.Shelf

def heldOf (o : Option Acc) : List Int := match o with | some a => a.held | none => []
theorem LedgerAt.held_few {w : World} {B g m mm : Nat} {f n : Int} {us : List Int} {xs : List Acc} (h : LedgerAt w B g m mm f n us xs) {a : Acc} (ha : a ∈ xs) : (a.held.length : Int) ≤ n := by
  have := rising_len (h.acc a ha).set.rising (a := f) (b := f + n) (by have := h.pool.rng; omega) (fun z hz => h.pool.ins z (h.sub ha z hz))
  omega
set_option maxHeartbeats 1000000 in
theorem holds_any {B g m mm : Nat} {f n : Int} {us : List Int} {xs : List Acc} (s : ByteArray) (w : World) (h : LedgerAt w B g m mm f n us xs) (hs : s.size ≤ maxLen) :
    Calls Try.prog 13 #[.pointer (some ⟨g, 0, none⟩), .string s] w fun e w' => ∃ v, e = .returned v ∧ w'.ownsRow w.heap.size 3 1 v (heldOf (findA xs s.data.toList)).length ((heldOf (findA xs s.data.toList)).map (Value.int .i64)) ∧ Below w.heap.size w w' := by
  cases hf : findA xs s.data.toList with
  | none =>
    have HF := Lib.hid (show ptrOf (findA xs s.data.toList) = .pointer none from by rw [hf]; rfl)
    clear hf
    go_enter Try.func13, Try.ntmps13
    go_wp2_with (go_at_call 26; refine (find_any s _ h hs).mono ?_; rw [HF.out]; rintro e w1 ⟨rfl, rfl⟩)
    go_ret
    exact ⟨_, rfl, World.ownsRow_nil _ _ _ _, Below.refl _ _⟩
  | some a =>
    have ha := (findA_some hf).1
    refine (callsIn_wide (n := 6)).1 ?_
    have k := h.acc a ha
    obtain ⟨c0, c1, c2⟩ := k.cells
    have hbl := k.set.lt
    have hfew := h.held_few ha
    obtain ⟨_, _, h4096, _⟩ := h.few
    have hmax : Maps.size (setD (H := Unit) a.held) ≤ maxLen := by rw [size_setD]; unfold maxLen; omega
    have hbytes : Maps.size (setD (H := Unit) a.held) * 8 ≤ 140737488355328 := by rw [size_setD]; omega
    have hseq : SeqGives Fence.wide 2 Try.prog 38 #[.pointer (some ⟨w.heap.size, 0, none⟩)] encZ (fun ss => ss.Perm (intKeys (setD (H := Unit) a.held))) (Maps.size (setD (H := Unit) a.held)) (w.alloc (.cells #[.map (some a.hb)] 37)) :=
      AnyZI.keys_gives (ρ := Try.keysA_ren) { Try.keysA with } Fence.wide _ trivial rfl (by omega) w.heap.size a.hb a.held.length (setD a.held) _ (by simp) (by simp) (by
        obtain ⟨es, clock, hb, Ft, hs, hD⟩ := k.set.own
        exact ⟨es, clock, (Below.heap_alloc _ _ a.hb hbl).trans hb, Ft, hs, hD⟩)
    have cK : ∀ mb W, CallsIn Fence.wide 5 Try.prog 30 #[.map mb] W fun e w' => e = .returned (.func (.func 38) #[] #[.pointer (some ⟨W.heap.size, 0, none⟩)]) ∧ w' = W.alloc (.cells #[.map mb] 37) := fun mb W => AnyZI.keys_in Try.keysA Fence.wide 5 trivial rfl mb W
    have cS := AnyZI.sorted_in Try.sortedA Fence.wide 5 trivial trivial trivial trivial rfl (by omega) (sortsA _) (enters_of Try.func37 (by kernel_rfl) rfl) 38 #[.pointer (some ⟨w.heap.size, 0, none⟩)] trivial (enters_of Try.func38 (by kernel_rfl) rfl) _ _ hmax hbytes _ hseq
    change CallsIn _ _ Try.prog 29 _ _ _ at cS
    have hfK : Fence.wide.fn 30 := trivial
    have hfS : Fence.wide.fn 29 := trivial
    have hfF : Fence.wide.fn 26 := trivial
    have cF : CallsIn Fence.wide 5 Try.prog 26 #[.pointer (some ⟨g, 0, none⟩), .string s] w fun e w' => e = .returned (.pointer (some ⟨a.ab, 0, none⟩)) ∧ w = w' :=
      callsIn_wide.2 ((find_any s w h hs).mono fun e w' ⟨h1, h2⟩ => ⟨by rw [h1, hf]; rfl, h2⟩)
    clear hseq hmax hbytes hf
    refine callsIn_of_wp Try.func13 rfl trivial ?_ rfl
    simp only [Try.ntmps13, List.size_toArray, List.length_cons, List.length_nil, Nat.reduceAdd, Nat.reduceSub, Array.replicate_succ, Array.replicate_zero, List.push_toArray, List.append_toArray, List.nil_append, List.cons_append]
    gi_wp2_with (first
      | (gi_at_call 26; refine cF.mono ?_; rintro e w1 ⟨rfl, rfl⟩)
      | (gi_at_call 30; refine (cK _ _).mono ?_; rintro e w' ⟨rfl, rfl⟩)
      | (gi_at_call 29; refine cS.mono ?_; rintro e w' ⟨v, ss, rfl, hS, hrow, hnil, hb⟩))
    go_ret
    rw [intKeys_setD] at hS
    have hlen : ss.length = a.held.length := hS.length_eq
    have hso := sorted_perm k.set.rising hS
    rw [hso, hlen] at hrow
    exact ⟨v, rfl, ownsRow_base_a hrow (by simp), ((Below.refl _ w).alloc (Nat.le_refl _) _).trans (hb.mono (by simp))⟩
end Go.Proofs.Ytopjmjobpkpmlaa
