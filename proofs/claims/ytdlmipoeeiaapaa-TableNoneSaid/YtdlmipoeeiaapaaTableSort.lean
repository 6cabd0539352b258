/-
  slices.SortFunc at records, by name.Compare.
-/
import Derived.Test.YtdlmipoeeiaapaaTableRecs
import Derived.Test.YtdlmipoeeiaapaaNameGrows
import Derived.Test.YtdlmipoeeiaapaaOrder
import Derived.Test.YtdlmipoeeiaapaaShelf
namespace Go.Proofs.Ytdlmipoeeiaapaa
open Go.RowKit Go.Maps Go.Sort Go.Shelf

instance : Inhabited Rc := ⟨⟨default, 0, Ag.zero⟩⟩
def cmpRc (r s : Rc) : Int := cmpR r.nm.toList r.st s.nm.toList s.st
theorem ltOf_rc (r s : Rc) : ltOf cmpRc r s = aheadB r.nm.toList r.st s.nm.toList s.st := rfl
theorem swo_rc : SWO (ltOf cmpRc) where
  irrefl x := by rw [ltOf_rc]; exact aheadB_irrefl _ _
  trans x y z h1 h2 := by rw [ltOf_rc] at *; exact aheadB_trans h1 h2
  ntrans x y z h1 h2 := by
    rw [ltOf_rc] at *
    cases h3 : aheadB x.nm.toList x.st z.nm.toList z.st
    · rfl
    · cases h4 : aheadB z.nm.toList z.st y.nm.toList y.st
      · cases h5 : aheadB y.nm.toList y.st z.nm.toList z.st
        · obtain ⟨e1, e2⟩ := aheadB_total h4 h5
          rw [e1, e2, h1] at h3; cases h3
        · rw [h2] at h5; cases h5
      · have := aheadB_trans h3 h4
        rw [h1] at this; cases this
theorem cmp_lays (blk off size : Nat) (w : World) : CmpLays Try.prog 34 #[] Rc.cells 7 cmpRc blk off size w := fun _ _ _ _ x y =>
  (compare_grows x.nm y.nm x.st y.st _ _ _ _ _ _ _ _ _ _ _).mono fun _ _ ⟨h1, h2⟩ => ⟨h1, h2⟩
theorem one_cells (x : Rc) : ∀ v ∈ x.cells, v.oneCell' = true := by
  intro v hv
  simp [Rc.cells, Ag.cells] at hv
  rcases hv with rfl | rfl | rfl | rfl | rfl | rfl | rfl <;> rfl
/-- The row of records in a block is sorted. -/
theorem sort_any (blk off cap : Nat) (d : Array Rc) (w : World) (hH : HoldsK Rc.cells 7 w blk off d) (hblk : blk < w.heap.size) (hsz : d.size < 4611686018427387904) :
    Calls Try.prog 33 #[.slice (some ⟨blk, off, none⟩) d.size cap, .func (.func 34) #[] #[]] w fun e w' => e = .returned (.tuple #[]) ∧ ∃ d' n os, PermIn 0 d.size d d' ∧ SortedIn (ltOf cmpRc) 0 d.size d' ∧ w' = sortWorldK Rc.cells 7 w blk off n d' os :=
  AnyQ.slices_SortFunc Try.sortR 7 Try.isAgg34 Try.sizeOf34 Rc.cells (fun _ => rfl) one_cells cmpRc swo_rc 34 #[] blk off cap d w (enters_of Try.func34 (by kernel_rfl) rfl) (cmp_lays blk off d.size w) hH hblk hsz
end Go.Proofs.Ytdlmipoeeiaapaa
