/-
  A set of numbers as a map[int]struct{}: its keys in rising order. Plain laws; then what the map's operations do to it.
-/
import Derived.Test.YtcglbbabfkbcbacRows
import Derived.WalkKit
import Derived.Maps.OwnSet
namespace Go.Proofs.Ytcglbbabfkbcbac
open Go.RowKit Go.Maps

/-- The number z put into a rising list. -/
def ins (z : Int) : List Int → List Int
  | [] => [z]
  | y :: r => if z < y then z :: y :: r else if z = y then y :: r else y :: ins z r
theorem mem_ins {z x : Int} : ∀ {l : List Int}, x ∈ ins z l ↔ x = z ∨ x ∈ l
  | [] => by simp [ins]
  | y :: r => by
    unfold ins
    by_cases h1 : z < y
    · rw [if_pos h1]; simp
    · rw [if_neg h1]
      by_cases h2 : z = y
      · rw [if_pos h2]; subst h2; simp
      · rw [if_neg h2]; simp [mem_ins (l := r)]; constructor <;> (rintro (h | h | h) <;> simp [h])
def Rising (l : List Int) : Prop := l.Pairwise (· < ·)
theorem rising_ins {z : Int} : ∀ {l : List Int}, Rising l → Rising (ins z l)
  | [], _ => by simp [ins, Rising]
  | y :: r, h => by
    unfold Rising at *
    rw [List.pairwise_cons] at h
    unfold ins
    by_cases h1 : z < y
    · rw [if_pos h1, List.pairwise_cons]
      refine ⟨fun x hx => ?_, List.pairwise_cons.2 h⟩
      rcases List.mem_cons.1 hx with rfl | hx
      · exact h1
      · have := h.1 x hx; omega
    · rw [if_neg h1]
      by_cases h2 : z = y
      · rw [if_pos h2]; exact List.pairwise_cons.2 h
      · rw [if_neg h2, List.pairwise_cons]
        refine ⟨fun x hx => ?_, rising_ins h.2⟩
        rcases mem_ins.1 hx with rfl | hx
        · omega
        · exact h.1 x hx
theorem ins_of_mem {z : Int} : ∀ {l : List Int}, Rising l → z ∈ l → ins z l = l
  | [], _, h => by simp at h
  | y :: r, h, hm => by
    unfold Rising at h
    rw [List.pairwise_cons] at h
    unfold ins
    rcases List.mem_cons.1 hm with rfl | hm
    · rw [if_neg (by omega), if_pos rfl]
    · have := h.1 z hm
      rw [if_neg (by omega), if_neg (by omega), ins_of_mem h.2 hm]
theorem length_ins {z : Int} : ∀ {l : List Int}, z ∉ l → (ins z l).length = l.length + 1
  | [], _ => rfl
  | y :: r, h => by
    simp at h
    unfold ins
    by_cases h1 : z < y
    · rw [if_pos h1]; rfl
    · rw [if_neg h1, if_neg h.1, List.length_cons, length_ins h.2]; rfl
/-- Two rising lists with the same members are one. -/
theorem rising_ext : ∀ {l k : List Int}, Rising l → Rising k → (∀ x, x ∈ l ↔ x ∈ k) → l = k
  | [], [], _, _, _ => rfl
  | [], y :: r, _, _, h => by have := (h y).2 (by simp); simp at this
  | y :: r, [], _, _, h => by have := (h y).1 (by simp); simp at this
  | y :: r, z :: s, hl, hk, h => by
    unfold Rising at hl hk
    rw [List.pairwise_cons] at hl hk
    have e : y = z := by
      have h1 := (h y).1 (by simp)
      have h2 := (h z).2 (by simp)
      rcases List.mem_cons.1 h1 with h1 | h1
      · exact h1
      · rcases List.mem_cons.1 h2 with h2 | h2
        · exact h2.symm
        · have := hk.1 y h1; have := hl.1 z h2; omega
    subst e
    rw [rising_ext hl.2 hk.2 (fun x => ?_)]
    have := h x
    simp only [List.mem_cons] at this
    constructor
    · intro hx
      rcases this.1 (.inr hx) with rfl | h3
      · have := hl.1 x hx; omega
      · exact h3
    · intro hx
      rcases this.2 (.inr hx) with rfl | h3
      · have := hk.1 x hx; omega
      · exact h3
theorem Rising.nodup {l : List Int} (h : Rising l) : l.Nodup := List.Pairwise.imp (fun hh => by omega) h

section
variable {H : Type}
/-- The map that has just these keys. -/
def setD (us : List Int) : DataW H := .map (us.map fun z => (.int .i64 z, .agg []))
theorem same_i (a b : Int) : (Lit.int .i64 a).sameKey (.int .i64 b) = decide (a = b) := by simp [Lit.sameKey]
theorem has_setD (us : List Int) (z : Int) : Maps.has (setD (H := H) us) (.int .i64 z) = decide (z ∈ us) := by
  unfold setD
  rw [Maps.has_eq, Bool.eq_iff_iff]
  simp only [List.any_map, List.any_eq_true, Function.comp, same_i, decide_eq_true_eq]
  constructor
  · rintro ⟨x, hx, rfl⟩; exact hx
  · intro h; exact ⟨z, h, rfl⟩
theorem size_setD (us : List Int) : Maps.size (setD (H := H) us) = us.length := by
  unfold setD; rw [Maps.size_eq, List.length_map]
theorem filter_setD (us : List Int) (z : Int) : ((us.map fun z => ((.int .i64 z, .agg []) : Lit × DataW H)).filter fun p => !p.1.sameKey (.int .i64 z)) = (us.filter fun x => decide (x ≠ z)).map fun z => (.int .i64 z, .agg []) := by
  rw [List.filter_map]
  congr 1
  apply List.filter_congr
  intro x _
  simp [same_i]
theorem del_setD (us : List Int) (z : Int) : (setD (H := H) us).del (.int .i64 z) = setD (us.filter fun x => decide (x ≠ z)) := by
  unfold setD DataW.del
  simp only
  rw [filter_setD]
theorem insert_setD (z : Int) : ∀ {us : List Int}, z ∉ us → DataW.insert ((.int .i64 z, .agg []) : Lit × DataW H) (us.map fun z => (.int .i64 z, .agg [])) = (ins z us).map fun z => (.int .i64 z, .agg [])
  | [], _ => rfl
  | y :: r, h => by
    simp at h
    unfold ins
    simp only [List.map_cons, DataW.insert, Lit.before]
    by_cases h1 : z < y
    · simp [h1]
    · simp only [h1, decide_false, Bool.false_eq_true, if_false, h.1]
      rw [insert_setD z h.2]; rfl
theorem ins_filter (z : Int) : ∀ {us : List Int}, Rising us → ins z (us.filter fun x => decide (x ≠ z)) = ins z us := by
  intro us h
  refine rising_ext (rising_ins (List.Pairwise.filter _ h)) (rising_ins h) (fun x => ?_)
  rw [mem_ins, mem_ins]
  simp
  constructor
  · rintro (rfl | ⟨h1, _⟩)
    · exact .inl rfl
    · exact .inr h1
  · rintro (rfl | h1)
    · exact .inl rfl
    · by_cases e : x = z
      · exact .inl e
      · exact .inr ⟨h1, e⟩
theorem put_setD (us : List Int) (z : Int) (h : Rising us) : (setD (H := H) us).put (.int .i64 z) (.agg []) = setD (ins z us) := by
  unfold setD DataW.put
  simp only
  rw [filter_setD, insert_setD z (by simp), ins_filter z h]
end

/-- Block b is a set of numbers, whose keys in order are us. -/
structure SetAt (w : World) (b : Nat) (us : List Int) : Prop where
  own : w.ownsMap Try.prog 3 (unitElem (H := Unit)) b us.length (setD us)
  rising : Rising us
theorem int_law : Keyed Try.prog 3 := int_keyed Try.underlying3
theorem ownsMap_tight {H : Type} {P : Program} {k : TypeId} {R : Value → Option (DataW H × List MemPlace)} {w : World} {b n : Nat} {D : DataW H} (h : w.ownsMap P k R b n D) : w.ownsMap P k R b (Maps.size D) D := by
  obtain ⟨es, clock, h1, h2, h3, h4⟩ := h
  refine ⟨es, clock, h1, h2, ?_, h4⟩
  rw [h4, Maps.size_eq, length_sorted]; simp
theorem SetAt.of_own {w : World} {b n : Nat} {us : List Int} (h : w.ownsMap Try.prog 3 (unitElem (H := Unit)) b n (setD us)) (hr : Rising us) : SetAt w b us :=
  ⟨by have := ownsMap_tight h; rwa [size_setD] at this, hr⟩
theorem SetAt.new (w : World) : SetAt (w.alloc (.map #[] 0)) w.heap.size [] := ⟨World.ownsMap_made _ _ _ _, List.Pairwise.nil⟩
theorem SetAt.lt {w : World} {b : Nat} {us : List Int} (h : SetAt w b us) : b < w.heap.size := h.own.lt
theorem SetAt.below {w w' : World} {b : Nat} {us : List Int} (h : SetAt w b us) {B : Nat} (hb : Below B w w') (hlt : b < B) : SetAt w' b us := by
  obtain ⟨es, clock, h1, r⟩ := h.own
  exact ⟨⟨es, clock, (hb.block b hlt).trans h1, r⟩, h.rising⟩
theorem SetAt.grown {w w' : World} {b : Nat} {us : List Int} {row : Option Nat} (h : SetAt w b us) (hg : w.grownBy w' row) (hne : some b ≠ row) : SetAt w' b us := ⟨h.own.kept hg hne, h.rising⟩
theorem SetAt.alloc {w : World} {b : Nat} {us : List Int} (h : SetAt w b us) (o : Obj) : SetAt (w.alloc o) b us := ⟨h.own.alloc o, h.rising⟩
end Go.Proofs.Ytcglbbabfkbcbac
