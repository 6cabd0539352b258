/-
  The lines of a text and their words: no program in sight.
-/
import Derived.Test.YtcglbbabfkbcbabDoorWordLine
import Derived.Lib.SplitLaws
import Derived.Lib.IndexLaws
import Derived.Lib.IndexBytes
namespace Go.Proofs.YtcglbbabfkbcbabDoor
open Go.RowKit

/-- The words of lines, the first of which has number n. -/
def cutW : Int → List (List UInt8) → List Wd
  | _, [] => []
  | n, l :: r => lineWords n l ++ cutW (n + 1) r
/-- The first line that has a byte that may not stand there; 0: none. -/
def cutE : Int → List (List UInt8) → Int
  | _, [] => 0
  | n, l :: r => if l.all okB = true then cutE (n + 1) r else n
theorem cutW_append : ∀ (a b : List (List UInt8)) (n : Int), cutW n (a ++ b) = cutW n a ++ cutW (n + a.length) b
  | [], b, n => by simp [cutW]
  | x :: r, b, n => by
    show lineWords n x ++ cutW (n + 1) (r ++ b) = (lineWords n x ++ cutW (n + 1) r) ++ _
    rw [cutW_append r b (n + 1), List.append_assoc]
    have e : n + 1 + (r.length : Int) = n + ((x :: r).length : Int) := by simp only [List.length_cons]; omega
    rw [e]
theorem cutE_at : ∀ (a : List (List UInt8)) (x : List UInt8) (b : List (List UInt8)) (n : Int), (∀ l ∈ a, l.all okB = true) → x.all okB = false → cutE n (a ++ x :: b) = n + a.length
  | [], x, b, n, _, hx => by simp [cutE, hx]
  | y :: r, x, b, n, ha, hx => by
    show (if y.all okB = true then cutE (n + 1) (r ++ x :: b) else n) = _
    rw [if_pos (ha y (by simp)), cutE_at r x b (n + 1) (fun l hl => ha l (by simp [hl])) hx]
    simp only [List.length_cons]; omega
theorem cutE_none : ∀ (a : List (List UInt8)) (n : Int), (∀ l ∈ a, l.all okB = true) → cutE n a = 0
  | [], _, _ => rfl
  | y :: r, n, ha => by
    show (if y.all okB = true then cutE (n + 1) r else n) = 0
    rw [if_pos (ha y (by simp)), cutE_none r (n + 1) (fun l hl => ha l (by simp [hl]))]
theorem lineWords_len (n : Int) (l : List UInt8) : (lineWords n l).length ≤ l.length := by
  have h1 := lst_len n l
  have h2 : (lineWords n l).length ≤ (lst n l).out.length := (List.takeWhile_sublist _).length_le
  omega
def linesB (s : ByteArray) : List ByteArray := Lib.splitB ⟨#[10]⟩ 0 (Lib.countB s ⟨#[10]⟩) s
def linesL (s : ByteArray) : List (List UInt8) := (linesB s).map ByteArray.toList

/-- The lines of some bytes. -/
def linesOf : List UInt8 → List (List UInt8)
  | [] => [[]]
  | c :: r => if c = 10 then [] :: linesOf r else match linesOf r with
    | [] => [[c]]
    | l :: ls => (c :: l) :: ls
theorem linesOf_plain : ∀ l : List UInt8, (∀ c ∈ l, c ≠ 10) → linesOf l = [l]
  | [], _ => rfl
  | c :: r, h => by
    unfold linesOf
    rw [if_neg (h c (by simp)), linesOf_plain r (fun x hx => h x (by simp [hx]))]
theorem linesOf_cut : ∀ (a r : List UInt8), (∀ c ∈ a, c ≠ 10) → linesOf (a ++ 10 :: r) = a :: linesOf r
  | [], r, _ => by show linesOf (10 :: r) = _; conv => lhs; unfold linesOf
                   rw [if_pos rfl]
  | c :: a, r, h => by
    show linesOf (c :: (a ++ 10 :: r)) = _
    conv => lhs; unfold linesOf
    rw [if_neg (h c (by simp)), linesOf_cut a r (fun x hx => h x (by simp [hx]))]
theorem lines_is : ∀ (k : Nat) (s : ByteArray), Lib.countB s ⟨#[10]⟩ = k → (Lib.splitB ⟨#[10]⟩ 0 k s).map ByteArray.toList = linesOf s.toList := by
  intro k
  induction k with
  | zero =>
    intro s hk
    rw [Lib.splitB_zero]
    rcases Lib.indexB_cases s ⟨#[10]⟩ with h | ⟨i, h, _⟩
    · have h1 : Lib.indexByte s.data.toList 10 = -1 := by rw [← Lib.index_one]; exact h
      simp only [List.map_cons, List.map_nil]
      rw [linesOf_plain s.toList (fun c hc => ?_)]
      rw [ByteArray.toList_eq] at hc
      obtain ⟨j, hj, e⟩ := List.getElem_of_mem hc
      rintro rfl
      exact Lib.indexByte_none h1 j (by rw [List.getElem?_eq_getElem hj, e])
    · have := Lib.countB_hit s ⟨#[10]⟩ i (by decide) h
      omega
  | succ k ih =>
    intro s hk
    rcases Lib.indexB_cases s ⟨#[10]⟩ with h | ⟨i, h, hi⟩
    · have := Lib.countB_miss s ⟨#[10]⟩ h
      omega
    · have h1 : Lib.indexByte s.data.toList 10 = i := by rw [← Lib.index_one]; exact h
      obtain ⟨h2, h3⟩ := Lib.indexByte_some h1
      have hc := Lib.countB_hit s ⟨#[10]⟩ i (by decide) h
      rw [Lib.splitB_hit _ _ _ _ _ h, List.map_cons, ih _ (by have : (⟨#[10]⟩ : ByteArray).size = 1 := rfl; rw [this] at hc ⊢; omega)]
      have hlt : i < s.data.toList.length := (List.getElem?_eq_some_iff.1 h2).1
      have e : s.toList = s.data.toList.take i ++ 10 :: s.data.toList.drop (i + 1) := by
        rw [ByteArray.toList_eq]
        have h4 : s.data.toList[i] = 10 := (List.getElem?_eq_some_iff.1 h2).2
        rw [← h4, ← List.drop_eq_getElem_cons hlt, List.take_append_drop]
      rw [e, linesOf_cut _ _ (fun c hc => by
        obtain ⟨j, hj, e2⟩ := List.getElem_of_mem hc
        rw [List.length_take] at hj
        rw [List.getElem_take] at e2
        rintro rfl
        exact h3 j (by omega) (by rw [List.getElem?_eq_getElem (by omega), e2]))]
      have hsz : (⟨#[10]⟩ : ByteArray).size = 1 := rfl
      rw [hsz]
      congr 1
      · rw [extract_is, List.drop_zero, ByteArray.toList_eq (⟨_⟩ : ByteArray), ByteArray.toList_eq s]; rfl
      · rw [extract_is, ByteArray.toList_eq (⟨_⟩ : ByteArray), List.take_of_length_le (by rw [len_toList]; omega), ByteArray.toList_eq s]
theorem linesL_is (s : ByteArray) : linesL s = linesOf s.toList := lines_is _ s rfl
theorem lines_len (s : ByteArray) : (linesB s).length = Lib.countB s ⟨#[10]⟩ + 1 := Lib.splitB_all ⟨#[10]⟩ (by decide) 0 _ s rfl
theorem lines_few (s : ByteArray) : (linesB s).length ≤ s.size + 1 := by rw [lines_len]; have := Lib.countB_le ⟨#[10]⟩ (by decide) s.size s (Nat.le_refl _); omega
theorem linesOf_size : ∀ (l : List UInt8), ∀ x ∈ linesOf l, x.length ≤ l.length
  | [], x, h => by simp [linesOf] at h; simp [h]
  | c :: r, x, h => by
    have ih := linesOf_size r
    unfold linesOf at h
    by_cases hc : c = 10
    · rw [if_pos hc] at h
      rcases List.mem_cons.1 h with rfl | h
      · simp
      · have := ih x h; simp; omega
    · rw [if_neg hc] at h
      cases hl : linesOf r with
      | nil => rw [hl] at h; simp at h; subst h; simp
      | cons y ys =>
        rw [hl] at h ih
        rcases List.mem_cons.1 h with rfl | h
        · have := ih y (by simp); simp; omega
        · have := ih x (by simp [h]); simp; omega
theorem lines_size (s : ByteArray) : ∀ l ∈ linesB s, l.size ≤ s.size := by
  intro l hl
  have := linesOf_size s.toList l.toList (by rw [← linesL_is]; exact List.mem_map.2 ⟨l, hl, rfl⟩)
  rwa [len_toList, len_toList] at this
end Go.Proofs.YtcglbbabfkbcbabDoor
