/-
  Parts of slices: 's[:t]', 's[t:]', whatever the slice.
-/
import Derived.Test.YtcglbbabfkbcbabDoorMem
import Derived.Below
import Derived.Laws.Slices
namespace Go.Proofs.YtcglbbabfkbcbabDoor
open Go.RowKit

theorem addr_add_zero (a : Addr) : a.add 0 = a := by unfold Addr.add; simp
theorem addr_add_none (b off i : Nat) : (⟨b, off, none⟩ : Addr).add i = ⟨b, off + i, none⟩ := by
  unfold Addr.add
  split
  · next e => subst e; rfl
  · rfl
theorem Sl.takeC {w : World} {A : Option Addr} {xs : List Value} (h : Sl w A xs) (t : Nat) : Sl w A (xs.take t) := by
  refine ⟨fun hne => ?_⟩
  obtain ⟨b, off, e, hb, hc⟩ := h.at_ (fun e => hne (by rw [e]; simp))
  refine ⟨b, off, e, hb, fun j u hu => hc j u ?_⟩
  rw [List.getElem?_take] at hu
  split at hu
  · exact hu
  · cases hu
theorem Sl.dropC {w : World} {A : Option Addr} {xs : List Value} (h : Sl w A xs) (t : Nat) (p : Prop) [Decidable p] (hp : p → xs.length ≤ t) : Sl w (if p then A else A.map (·.add t)) (xs.drop t) := by
  refine ⟨fun hne => ?_⟩
  have hl : ¬ xs.length ≤ t := fun hl => hne (List.drop_eq_nil_of_le hl)
  rw [if_neg (fun hh => hl (hp hh))]
  obtain ⟨b, off, e, hb, hc⟩ := h.at_ (fun e => hne (by rw [e]; simp))
  subst e
  refine ⟨b, off + t, by simp [addr_add_none], hb, fun j u hu => ?_⟩
  rw [List.getElem?_drop] at hu
  rw [Nat.add_assoc]
  exact hc (t + j) u hu
theorem run_slice_to {P : Program} {T E : TypeId} {W : World} (ht : P.underlying T = some (.slice E)) (s : Nat) (hs : (sizeOf (P.elem T)).run P W = .ok s W) (A : Option Addr) (n c t : Nat) (h : t ≤ c) :
    (Instr.slice T (.slice A n c) none (some (.int .i64 t)) none).run P W = .ok (.slice A t c) W := by
  have he : P.underlying T = some (.slice (P.elem T)) := by rw [ht]; simp [Program.elem, ht]
  rw [run_slice_h W T A n c he .i64 (t : Int) (by omega) (by omega), hs]
  simp only [Result.andThen, sliced, Nat.zero_mul]
  congr 2
  · cases A with
    | none => simp
    | some a => simp [addr_add_zero]
theorem run_slice_from {P : Program} {T E : TypeId} {W : World} (ht : P.underlying T = some (.slice E)) (s : Nat) (hs : (sizeOf (P.elem T)).run P W = .ok s W) (A : Option Addr) (n c t : Nat) (h : t ≤ n) :
    (Instr.slice T (.slice A n c) (some (.int .i64 t)) none none).run P W = .ok (.slice (if c = t then A else A.map (·.add (t * s))) (n - t) (c - t)) W := by
  have he : P.underlying T = some (.slice (P.elem T)) := by rw [ht]; simp [Program.elem, ht]
  rw [run_slice_l W T A n c he .i64 (t : Int) (by omega) (by omega), hs]
  simp only [Result.andThen, sliced, Int.toNat_natCast]
end Go.Proofs.YtcglbbabfkbcbabDoor
