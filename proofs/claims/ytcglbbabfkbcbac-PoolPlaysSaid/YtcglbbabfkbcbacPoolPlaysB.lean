/-
  PoolPlays: what its loops compute, in plain lists.
-/
import Derived.Test.YtcglbbabfkbcbacPoolPlaysA
import Derived.Test.YtcglbbabfkbcbacPoolMark
namespace Go.Proofs.Ytcglbbabfkbcbac
open Go.RowKit Go.Maps

/-! Take. -/
section
variable {f : Int} {us : List Int} {n k : Nat}
theorem take_prefix {q : Nat} (hk : k ≤ n) (ha : (freeIn f us k).length ≤ ((freeIn f us n).take q).length) : ((freeIn f us n).take q).take (freeIn f us k).length = freeIn f us k := by
  rw [List.take_take, Nat.min_eq_left (by rw [List.length_take] at ha; omega), freeIn_prefix hk]
theorem take_mem {q : Nat} (hk : k ≤ n) (ha : (freeIn f us k).length ≤ ((freeIn f us n).take q).length) : decide (f + (k : Int) ∈ insAll us (((freeIn f us n).take q).take (freeIn f us k).length)) = decide (f + (k : Int) ∈ us) := by
  rw [take_prefix hk ha]
  simp only [mem_insAll, mem_freeIn]
  simp
theorem take_used (h : f + (k : Int) ∈ us) : freeIn f us (k + 1) = freeIn f us k := by rw [freeIn_succ, if_pos h, List.append_nil]
theorem take_free (h : f + (k : Int) ∉ us) : freeIn f us (k + 1) = freeIn f us k ++ [f + (k : Int)] := by rw [freeIn_succ, if_neg h]
theorem take_get {q : Nat} (hk : k < n) (h : f + (k : Int) ∉ us) (ha : (freeIn f us k).length < ((freeIn f us n).take q).length) : ((freeIn f us n).take q)[(freeIn f us k).length] = f + (k : Int) := by
  have hl : (freeIn f us (k + 1)).length = (freeIn f us k).length + 1 := by rw [take_free h]; simp
  have h1 := take_prefix (f := f) (us := us) (q := q) (k := k + 1) (n := n) (by omega) (by omega)
  have h2 : (((freeIn f us n).take q).take (freeIn f us (k + 1)).length)[(freeIn f us k).length]? = (freeIn f us (k + 1))[(freeIn f us k).length]? := by rw [h1]
  rw [List.getElem?_take_of_lt (by omega), take_free h, List.getElem?_append_right (Nat.le_refl _), List.getElem?_eq_getElem ha] at h2
  simpa using h2
theorem take_next {q : Nat} (hk : k < n) (h : f + (k : Int) ∉ us) (ha : (freeIn f us k).length < ((freeIn f us n).take q).length) :
    insAll us (((freeIn f us n).take q).take ((freeIn f us k).length + 1)) = ins (f + (k : Int)) (insAll us (((freeIn f us n).take q).take (freeIn f us k).length)) := by
  rw [List.take_succ_eq_append_getElem ha, insAll_snoc, take_get hk h ha]
end
/-! Give. -/
theorem give_sub (us : List Int) : ∀ zs : List Int, ∀ z ∈ (giveAll us zs).1, z ∈ us := by
  intro zs
  obtain ⟨ys, rfl⟩ : ∃ ys : List Int, zs = ys.reverse := ⟨zs.reverse, by simp⟩
  induction ys with
  | nil => simp [giveAll]
  | cons y r ih =>
    rw [List.reverse_cons, giveAll_snoc]
    unfold giveStep
    split
    · intro z hz; exact ih z (List.mem_filter.1 hz).1
    · exact ih
theorem give_hit {us zs : List Int} {j : Nat} (h : j < zs.length) (hz : zs[j] ∈ (giveAll us (zs.take j)).1) : giveAll us (zs.take (j + 1)) = ((giveAll us (zs.take j)).1.filter (fun x => decide (x ≠ zs[j])), (giveAll us (zs.take j)).2 + 1) := by
  rw [List.take_succ_eq_append_getElem h, giveAll_snoc, giveStep, if_pos hz]
theorem give_miss {us zs : List Int} {j : Nat} (h : j < zs.length) (hz : zs[j] ∉ (giveAll us (zs.take j)).1) : giveAll us (zs.take (j + 1)) = giveAll us (zs.take j) := by
  rw [List.take_succ_eq_append_getElem h, giveAll_snoc, giveStep, if_neg hz]
/-! Mark. -/
/-- The error of the first look: out of range. -/
def rngErr (f n : Int) (zs : List Int) : Int := if zs.all (inR f n) = true then 0 else 15
theorem rng_in {f n : Int} {zs : List Int} {j : Nat} (h : j < zs.length) (hz : inR f n zs[j] = true) : rngErr f n (zs.take (j + 1)) = rngErr f n (zs.take j) := by
  unfold rngErr; rw [all_take_next _ _ _ h, hz, Bool.and_true]
theorem rng_out {f n : Int} {zs : List Int} {j : Nat} (h : j < zs.length) (hz : inR f n zs[j] = false) : rngErr f n (zs.take (j + 1)) = 15 := by
  unfold rngErr; rw [all_take_next _ _ _ h, hz, Bool.and_false]; rfl
/-- Is z at one of the first t places? -/
def seenTo (z : Int) (zs : List Int) (t : Nat) : Bool := decide (z ∈ zs.take t)
theorem seen_zero (z : Int) (zs : List Int) : seenTo z zs 0 = false := by simp [seenTo]
theorem seen_next {z : Int} {zs : List Int} {t : Nat} (h : t < zs.length) : seenTo z zs (t + 1) = (seenTo z zs t || decide (zs[t] = z)) := by
  unfold seenTo
  rw [List.take_succ_eq_append_getElem h]
  simp only [List.mem_append, List.mem_singleton, Bool.decide_or]
  congr 1
  exact decide_eq_decide.2 eq_comm
theorem dup_all {us zs : List Int} (h : dupB us zs = false) : zs.Nodup ∧ ∀ z ∈ zs, z ∉ us := by
  unfold dupB at h; rwa [decide_eq_false_iff_not, Decidable.not_not] at h
/-- A pool of no blocks: what its first block is matters to nobody. -/
theorem take_none {f f' q : Int} : takeOut f 0 [] q = takeOut f' 0 [] q := by
  unfold takeOut freeIn; simp
theorem mark_none {f f' : Int} {zs : List Int} : markErr f 0 [] zs = markErr f' 0 [] zs ∧ markTo f 0 [] zs = markTo f' 0 [] zs := by
  have hR : inR f 0 = inR f' 0 := by
    funext z; unfold inR
    rw [decide_eq_false (by omega), decide_eq_false (by omega)]
  have h1 : markErr f 0 [] zs = markErr f' 0 [] zs := by unfold markErr; rw [hR]
  exact ⟨h1, by unfold markTo; rw [h1]⟩
theorem none_used {w : World} {g m : Nat} {f : Int} {us : List Int} (h : PoolAt w g m f 0 us) : us = [] := by
  cases us with
  | nil => rfl
  | cons a r => have := h.ins a (by simp); omega
end Go.Proofs.Ytcglbbabfkbcbac
