/-
  The package ledger: what its calls answer, by what is to be seen of the accounts.
-/
import Derived.Test.YtopjmjobpkpmlaaLedgerMove
namespace Go.Proofs.Ytopjmjobpkpmlaa
open Go.RowKit Go.Maps

def findV (vs : List AV) (nm : List UInt8) : Option AV := vs.find? (fun v => v.1 == nm)
theorem findA_view (xs : List Acc) (nm : List UInt8) : (findA xs nm).map vw = findV (view xs) nm := by
  unfold findA findV view
  rw [List.find?_map]; rfl
def leftV (vs : List AV) (nm : List UInt8) : Int := match findV vs nm with | some v => v.2.1 | none => 0
def heldV (vs : List AV) (nm : List UInt8) : List Int := match findV vs nm with | some v => v.2.2 | none => []
theorem left_view (xs : List Acc) (nm : List UInt8) : leftOf (findA xs nm) = leftV (view xs) nm := by
  unfold leftV; rw [← findA_view]; cases findA xs nm <;> rfl
theorem held_view (xs : List Acc) (nm : List UInt8) : heldOf (findA xs nm) = heldV (view xs) nm := by
  unfold heldV; rw [← findA_view]; cases findA xs nm <;> rfl
def openV (n : Int) (us : List Int) (vs : List AV) : Int := n - us.length - (vs.map fun v => v.2.1).sum
theorem open_view (n : Int) (us : List Int) (xs : List Acc) : openOf n us xs = openV n us (view xs) := by unfold openOf openV; rw [sumV]
def drawErrV (vs : List AV) (nm : List UInt8) (k : Int) : Int := if k < 0 then 1 else match findV vs nm with | none => 8 | some v => if v.2.1 < k then 20 else 0
theorem drawErr_view (xs : List Acc) (nm : List UInt8) (k : Int) : drawErr xs nm k = drawErrV (view xs) nm k := by
  unfold drawErr drawErrV; rw [← findA_view]; cases findA xs nm <;> rfl
def resErrV (n : Int) (us : List Int) (vs : List AV) (s : ByteArray) (k : Int) : Int := if k < 0 ∨ ¬ (1 ≤ s.size ∧ s.size ≤ 15) then 1 else if openV n us vs < k then 20 else 0
theorem resErr_view (n : Int) (us : List Int) (xs : List Acc) (s : ByteArray) (k : Int) : resErr n us xs s k = resErrV n us (view xs) s k := by
  unfold resErr resErrV; rw [open_view]
def moveOutV (vs : List AV) (nm : List UInt8) (t : ByteArray) (zs : List Int) : List Int := match findV vs nm with | none => [] | some v => if 1 ≤ t.size ∧ t.size ≤ 15 then (outAll v.2.2 zs).2 else []
theorem moveOut_view (xs : List Acc) (nm : List UInt8) (t : ByteArray) (zs : List Int) : moveOut xs nm t zs = moveOutV (view xs) nm t zs := by
  unfold moveOut moveOutV; rw [← findA_view]; cases findA xs nm <;> rfl
theorem drawOut_view (f n : Int) (us : List Int) (xs : List Acc) (nm : List UInt8) (k : Int) : drawOut f n us xs nm k = if drawErrV (view xs) nm k = 0 then (freeIn f us n.toNat).take k.toNat else [] := by
  unfold drawOut; rw [drawErr_view]
theorem view_len (xs : List Acc) : (view xs).length = xs.length := by unfold view; simp
theorem insAll_new {O : List Int} (h : Rising O) : insAll [] O = O := rising_ext (rising_insAll (by simp [Rising])) h (fun x => by rw [mem_insAll]; simp)
theorem lessU_self (us : List Int) : lessU us us = [] := by unfold lessU; rw [List.filter_eq_nil_iff]; simp
def nA : ByteArray := ⟨#[97]⟩
def nB : ByteArray := ⟨#[98]⟩
end Go.Proofs.Ytopjmjobpkpmlaa
