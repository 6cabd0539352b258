/-
  The package ledger: Owners, New.
-/
import Derived.Test.YtopjmjobpkpmlaaLedgerHolds
namespace Go.Proofs.Ytopjmjobpkpmlaa
open Go.RowKit Go.Maps Go.Sort Go.Shelf

theorem lt_of_before : ∀ (a b : List UInt8), bytesBefore a b = true → a < b
  | [], [], h => by cases h
  | [], _ :: _, _ => List.nil_lt_cons _ _
  | _ :: _, [], h => by cases h
  | x :: r, y :: s, h => by
    unfold bytesBefore at h
    simp only [Bool.or_eq_true, decide_eq_true_eq, Bool.and_eq_true, beq_iff_eq] at h
    rw [List.cons_lt_cons_iff]
    rcases h with h | ⟨h1, h2⟩
    · exact .inl h
    · exact .inr ⟨h1, lt_of_before r s h2⟩
theorem perm_sorted : ∀ {l k : List (List UInt8)}, l.Pairwise (· ≤ ·) → k.Pairwise (· ≤ ·) → l.Perm k → l = k
  | [], k, _, _, h => by have := h.length_eq; simp at this; exact (List.eq_nil_of_length_eq_zero this.symm).symm
  | x :: r, [], _, _, h => by have := h.length_eq; simp at this
  | x :: r, y :: s, hl, hk, h => by
    rw [List.pairwise_cons] at hl hk
    have e : x = y := by
      have h1 := h.mem_iff.1 (show x ∈ x :: r by simp)
      have h2 := h.mem_iff.2 (show y ∈ y :: s by simp)
      rcases List.mem_cons.1 h1 with h1 | h1
      · exact h1
      · rcases List.mem_cons.1 h2 with h2 | h2
        · exact h2.symm
        · exact List.le_antisymm (hl.1 y h2) (hk.1 x h1)
    subst e
    rw [perm_sorted hl.2 hk.2 (List.perm_cons x |>.1 h)]
theorem sorted_names {ns ss : List (List UInt8)} (hr : ns.Pairwise (fun a b => bytesBefore a b = true)) (hp : ss.Perm ns) : ss.mergeSort (fun x y => decide (x ≤ y)) = ns := by
  have h1 : (ss.mergeSort (fun x y => decide (x ≤ y))).Perm ns := (List.mergeSort_perm _ _).trans hp
  have h2 := List.pairwise_mergeSort (le := fun x y : List UInt8 => decide (x ≤ y)) (fun a b c h1 h2 => by simp at *; exact List.le_trans h1 h2) (fun a b => by simp; exact List.le_total a b) ss
  exact perm_sorted (h2.imp (fun h => by simpa using h)) (hr.imp (fun h => List.le_of_lt (lt_of_before _ _ h))) h1
theorem LedgerMem.rising {w : World} {B g m mm : Nat} {f n : Int} {us : List Int} {xs : List Acc} (h : LedgerMem w B g m mm f n us xs) : (xs.map Acc.name).Pairwise (fun a b => bytesBefore a b = true) := by
  obtain ⟨es, he, hp, _⟩ := h.own.canon str_law
  have e : es = xs.map fun a => (.string a.name, .lit (.int .i64 a.ab)) := by injection he with he; exact he.symm
  rw [e, List.pairwise_map] at hp
  rw [List.pairwise_map]
  exact hp
theorem strKeys_accD (xs : List Acc) : strKeys (accD xs) = xs.map Acc.name := by
  show (xs.map fun a => ((.string a.name, .lit (.int .i64 a.ab)) : Lit × DataW Unit)).map (fun p => strOf p.1) = _
  rw [List.map_map]; rfl
theorem sortsS (q : Nat) : AnyZ.SortsIn Try.prog Try.sortedS_ren Fence.wide q :=
  ⟨fun blk off cap ss W hH hblk hsz => callsIn_wide.2 (AnyM.slices_Sort_string Try.sortS blk off cap ss W hH hblk hsz),
   fun p cap W => callsIn_wide.2 (AnyM.slices_Sort_string_none Try.sortS p cap W)⟩
set_option maxHeartbeats 1000000 in
theorem owners_any {B g m mm : Nat} {f n : Int} {us : List Int} {xs : List Acc} (w : World) (h : LedgerAt w B g m mm f n us xs) (hfew : xs.length < 1000000) :
    Calls Try.prog 16 #[.pointer (some ⟨g, 0, none⟩)] w fun e w' => ∃ v, e = .returned v ∧ w'.ownsRow w.heap.size 9 1 v xs.length (xs.map fun a => Value.string ⟨a.name.toArray⟩) ∧ Below w.heap.size w w' := by
  refine (callsIn_wide (n := 6)).1 ?_
  have c3 := h.c3
  have hbl := h.own.lt
  have hmax : Maps.size (accD xs) ≤ maxLen := by rw [size_accD]; unfold maxLen; omega
  have hbytes : Maps.size (accD xs) * 16 ≤ 140737488355328 := by rw [size_accD]; omega
  have hseq : SeqGives Fence.wide 2 Try.prog 41 #[.pointer (some ⟨w.heap.size, 0, none⟩)] encStr (fun ss => ss.Perm (strKeys (accD xs))) (Maps.size (accD xs)) (w.alloc (.cells #[.map (some mm)] 40)) :=
    AnyZ.keys_gives (ρ := Try.keysS_ren) { Try.keysS with } Fence.wide _ trivial rfl (by omega) w.heap.size mm xs.length (accD xs) _ (by simp) (by simp) (by
      obtain ⟨es, clock, hb, Ft, hs, hD⟩ := h.own
      exact ⟨es, clock, (Below.heap_alloc _ _ mm hbl).trans hb, Ft, hs, hD⟩)
  have cK : ∀ mb W, CallsIn Fence.wide 5 Try.prog 32 #[.map mb] W fun e w' => e = .returned (.func (.func 41) #[] #[.pointer (some ⟨W.heap.size, 0, none⟩)]) ∧ w' = W.alloc (.cells #[.map mb] 40) := fun mb W => AnyZ.keys_in Try.keysS Fence.wide 5 trivial rfl mb W
  have cS := AnyZ.sorted_in Try.sortedS Fence.wide 5 trivial trivial trivial trivial rfl (by omega) (sortsS _) (enters_of Try.func40 (by kernel_rfl) rfl) 41 #[.pointer (some ⟨w.heap.size, 0, none⟩)] trivial (enters_of Try.func41 (by kernel_rfl) rfl) _ _ hmax hbytes _ hseq
  change CallsIn _ _ Try.prog 31 _ _ _ at cS
  have hfK : Fence.wide.fn 32 := trivial
  have hfS : Fence.wide.fn 31 := trivial
  have hfF : Fence.wide.fn 24 := trivial
  have cF : CallsIn Fence.wide 5 Try.prog 24 #[.pointer (some ⟨g, 0, none⟩)] w fun e w' => e = .returned (.bool false) ∧ w = w' := callsIn_wide.2 (none_any w h)
  clear hseq hmax hbytes
  refine callsIn_of_wp Try.func16 rfl trivial ?_ rfl
  simp only [Try.ntmps16, List.size_toArray, List.length_cons, List.length_nil, Nat.reduceAdd, Nat.reduceSub, Array.replicate_succ, Array.replicate_zero, List.push_toArray, List.append_toArray, List.nil_append, List.cons_append]
  gi_wp2_with (first
    | (gi_at_call 24; refine cF.mono ?_; rintro e w1 ⟨rfl, rfl⟩)
    | (gi_at_call 32; refine (cK _ _).mono ?_; rintro e w' ⟨rfl, rfl⟩)
    | (gi_at_call 31; refine cS.mono ?_; rintro e w' ⟨v, ss, rfl, hS, hrow, hnil, hb⟩))
  go_ret
  rw [strKeys_accD] at hS
  have hlen : ss.length = xs.length := by have := hS.length_eq; simpa using this
  have hso := sorted_names h.mem.rising hS
  rw [hso, hlen, List.map_map] at hrow
  exact ⟨v, rfl, ownsRow_base_a hrow (by simp), ((Below.refl _ w).alloc (Nat.le_refl _) _).trans (hb.mono (by simp))⟩
def NewLedger (from_ n : Int) (w : World) (e : Ending) (w' : World) : Prop :=
  ∃ g m mm f k, e = .returned (.pointer (some ⟨g, 0, none⟩)) ∧ LedgerAt w' w.heap.size g m mm f k [] [] ∧ Below w.heap.size w w' ∧
    f = max from_ 0 ∧ k = if from_ < 0 ∨ 4096 < from_ ∨ n < 0 then 0 else min n 4096
theorem ledger_mk {w1 : World} {B g0 m : Nat} {f k : Int} (h : PoolAt w1 g0 m f k []) (hB : B ≤ w1.heap.size) (hm : B ≤ m) :
    LedgerAt ((w1.alloc (.map #[] 0)).alloc (.cells #[.int .i64 f, .int .i64 k, .map (some m), .map (some w1.heap.size)] 42)) B (w1.heap.size + 1) m w1.heap.size f k [] [] := by
  have h2 := (h.below ((Below.refl _ _).alloc (Nat.le_refl _) (.map #[] 0))).below ((Below.refl _ _).alloc (Nat.le_refl _) (.cells #[.int .i64 f, .int .i64 k, .map (some m), .map (some w1.heap.size)] 42))
  have hblk : ((w1.alloc (.map #[] 0)).alloc (.cells #[.int .i64 f, .int .i64 k, .map (some m), .map (some w1.heap.size)] 42)).heap[w1.heap.size + 1]? = some (.cells #[.int .i64 f, .int .i64 k, .map (some m), .map (some w1.heap.size)] 42 (0, 0)) := by
    have := heap_alloc_new (w1.alloc (.map #[] 0)) (.cells #[.int .i64 f, .int .i64 k, .map (some m), .map (some w1.heap.size)] 42); simpa using this
  have hmlt := h.set.lt
  refine ⟨⟨⟨⟨_, _, hblk⟩, h2.set, h.rng, by simp⟩, cell_of_row _ _ 3 _ _ _ hblk, (World.ownsMap_made w1 _ _ _).alloc _, by simp, by simp, by simp, by simp, by omega, by omega, hm, hB⟩, ⟨by simp, by simp, ?_, by simp, by simp⟩⟩
  have := h.rng
  simp [sumL]; omega
set_option maxHeartbeats 1000000 in
theorem newL_any (from_ n : Int) (w : World) (hf : -9223372036854775808 ≤ from_ ∧ from_ ≤ 9223372036854775807) :
    Calls Try.prog 8 #[.int .i64 from_, .int .i64 n] w (NewLedger from_ n w) := by
  have hmm := @run_makeMap Try.prog
  go_enter Try.func8, Try.ntmps8
  go_wp2_with (first
    | (go_at_call 22; refine (new_any _ _ _ hf).mono ?_; rintro e w1 ⟨g0, m, f, k, rfl, hp, hb1, hg0, hm, hf', hk⟩
       obtain ⟨c0, c1, c2⟩ := hp.cells
       have HF := Lib.hid hf'
       have HK := Lib.hid hk
       clear hf' hk))
  go_ret
  exact ⟨_, m, _, f, k, rfl, ledger_mk hp hb1.size hm, (hb1.alloc hb1.size _).alloc (by have := hb1.size; simp; omega) _, HF.out, HK.out⟩
end Go.Proofs.Ytopjmjobpkpmlaa
