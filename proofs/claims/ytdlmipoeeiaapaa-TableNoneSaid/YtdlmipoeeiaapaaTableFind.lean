/-
  Every, Find.
-/
import Derived.Test.YtdlmipoeeiaapaaTableRecs
namespace Go.Proofs.Ytdlmipoeeiaapaa
open Go.RowKit Go.Maps

set_option maxHeartbeats 1000000 in
theorem everyT_any {w : World} {g mm : Nat} {ev : Int} {l : List Rc} (h : TableAt w g mm ev l) :
    Calls Try.prog 29 #[.pointer (some ⟨g, 0, none⟩)] w fun e w' => e = .returned (.int .i64 ev) ∧ w = w' := by
  obtain ⟨c0, c1⟩ := h.cells
  go_enter Try.func29, Try.ntmps29
  go_wp2_with (go_at_call 30; refine (noneT_any h).mono ?_; rintro e w1 ⟨rfl, rfl⟩)
  go_ret
  exact ⟨rfl, rfl⟩
theorem MapAt.look_ok {w : World} {mm : Nat} {l : List Rc} (h : MapAt w mm l) {s : ByteArray} {n : Int} (hs : s.size ≤ maxLen) (hn : (Lit.int .i64 n).wf = true) :
    (Instr.lookup 53 (.map (some mm)) (placeV s n) true).run Try.prog w = .ok (.tuple #[(agAt l s n).val, .bool (findR l s n).isSome]) w := by
  obtain ⟨D, hown, hrep⟩ := h.own
  obtain ⟨v, ps, hrun, hv⟩ := hown.look_ok place_law Try.underlying53 (zero_ag w) (agElem_mk Ag.zero) (key_mk hs hn)
  rw [hrun, hrep.has hs hn]
  rw [hrep.at_ hs hn] at hv
  obtain ⟨a, rfl, e⟩ := agElem_inv hv
  unfold agAt
  cases hf : findR l s n with
  | none =>
    rw [hf] at e
    rw [← agD_inj (Prod.mk.inj e).1]
  | some r =>
    rw [hf] at e
    rw [← agD_inj (Prod.mk.inj e).1]
set_option maxRecDepth 100000 in
set_option maxHeartbeats 2000000 in
theorem findT_any {w : World} {g mm : Nat} {ev : Int} {l : List Rc} (s : ByteArray) (n : Int) (h : TableAt w g mm ev l) (hs : s.size ≤ maxLen) (hn : (Lit.int .i64 n).wf = true) :
    Calls Try.prog 20 #[.pointer (some ⟨g, 0, none⟩), .string s, .int .i64 n] w fun e w' => e = .returned (.tuple #[(agAt l s n).val, .bool (findR l s n).isSome]) ∧ Below w.heap.size w w' := by
  have T1 := h.below ((Below.refl _ _).alloc (Nat.le_refl _) (.cells #[.int .i64 0, .int .i64 0, .int .u64 0, .int .i64 0, .int .i64 0] 32))
  have hlk := T1.map.look_ok hs hn
  obtain ⟨c0, c1⟩ := T1.cells
  obtain ⟨z, hz⟩ : ∃ z, agAt l s n = z := ⟨_, rfl⟩
  rw [hz] at hlk ⊢
  generalize (findR l s n).isSome = v at hlk ⊢
  clear hz
  go_enter Try.func20, Try.ntmps20
  go_wp2_with (go_at_call 30; refine (noneT_any T1).mono ?_; rintro e w1 ⟨rfl, rfl⟩)
  exact bodyPost_ret (v := .tuple #[z.val, .bool v]) (by simp [results, Try.results20, go_sem]) rfl ⟨rfl, ((Below.refl _ _).alloc (Nat.le_refl _) _).alloc (by simp) _⟩
end Go.Proofs.Ytdlmipoeeiaapaa
