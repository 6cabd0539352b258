/-
  Words of a text: what the package word does, on lists of bytes. No program in sight.
-/
import Derived.WalkKit
namespace Go.Proofs.YtcglbbabfkbcbabDoor
open Go.RowKit

theorem ret_bool {a b : Bool} (h : a = b) : Ending.returned (.bool a) = .returned (.bool b) := by rw [h]
theorem ret_int {k : IntKind} {a b : Int} (h : a = b) : Ending.returned (.int k a) = .returned (.int k b) := by rw [h]
theorem len_toList (s : ByteArray) : s.toList.length = s.size := by rw [ByteArray.toList_eq]; simp
theorem take_snoc (s : ByteArray) (k : Nat) (h : k < s.size) : s.toList.take (k + 1) = s.toList.take k ++ [s[k]] := by
  rw [ByteArray.toList_eq, List.take_succ_eq_append_getElem (by simpa using h)]; rfl
theorem get_toList (s : ByteArray) (k : Nat) (h : k < s.size) : s.toList[k]? = some s[k] := by
  rw [ByteArray.toList_eq, List.getElem?_eq_getElem (by simpa using h)]; rfl

/-- A word: its bytes, its line, its column. -/
structure Wd where
  text : List UInt8
  line : Int
  col : Int
def blankB (c : Int) : Bool := decide (c = 32 ∨ c = 9)
def wletterB (c : Int) : Bool := decide (32 < c ∧ c < 127)
/-- May a byte stand in a line? -/
def okB (c : UInt8) : Bool := blankB c.toNat || wletterB c.toNat
/-- The last word grows by a byte. -/
def extLast (c : UInt8) : List Wd → List Wd
  | [] => []
  | [x] => [⟨x.text ++ [c], x.line, x.col⟩]
  | x :: y :: r => x :: extLast c (y :: r)
/-- A line's words so far; is one open; how many bytes have been seen. -/
structure LSt where
  out : List Wd
  op : Bool
  i : Nat
def lstep (n : Int) (s : LSt) (c : UInt8) : LSt :=
  if blankB c.toNat = true then ⟨s.out, false, s.i + 1⟩ else if s.op = true then ⟨extLast c s.out, true, s.i + 1⟩ else ⟨s.out ++ [⟨[c], n, (s.i : Int) + 1⟩], true, s.i + 1⟩
def lst (n : Int) (l : List UInt8) : LSt := l.foldl (lstep n) ⟨[], false, 0⟩
theorem lst_snoc (n : Int) (l : List UInt8) (c : UInt8) : lst n (l ++ [c]) = lstep n (lst n l) c := by simp [lst, List.foldl_append]
theorem lst_i (n : Int) (l : List UInt8) : (lst n l).i = l.length := by
  obtain ⟨m, rfl⟩ : ∃ m : List UInt8, l = m.reverse := ⟨l.reverse, by simp⟩
  induction m with
  | nil => rfl
  | cons c r ih =>
    rw [List.reverse_cons, lst_snoc]
    unfold lstep
    split
    · simp only [ih]; simp
    · split <;> (simp only [ih]; simp)
theorem extLast_len (c : UInt8) : ∀ l, (extLast c l).length = l.length
  | [] => rfl
  | [_] => rfl
  | x :: y :: r => by show _ + 1 = _; rw [extLast_len c (y :: r)]; rfl
theorem extLast_snoc (c : UInt8) (x : Wd) : ∀ l, extLast c (l ++ [x]) = l ++ [⟨x.text ++ [c], x.line, x.col⟩]
  | [] => rfl
  | [y] => rfl
  | y :: z :: r => by
    show y :: extLast c (z :: r ++ [x]) = _
    rw [extLast_snoc c x (z :: r)]; rfl
theorem lst_len (n : Int) (l : List UInt8) : (lst n l).out.length ≤ l.length := by
  obtain ⟨m, rfl⟩ : ∃ m : List UInt8, l = m.reverse := ⟨l.reverse, by simp⟩
  induction m with
  | nil => simp [lst]
  | cons c r ih =>
    rw [List.reverse_cons, lst_snoc]
    unfold lstep
    simp only [List.length_append, List.length_cons, List.length_nil]
    split
    · simp only; omega
    · split
      · simp only [extLast_len]; omega
      · simp only [List.length_append, List.length_cons, List.length_nil]; omega
/-- While a word is open it is the last one, and its bytes are the last ones that were seen. -/
theorem lst_open (n : Int) (l : List UInt8) (h : (lst n l).op = true) : ∃ (p : List Wd) (x : Wd) (b : Nat), (lst n l).out = p ++ [x] ∧ b < l.length ∧ x.text = l.drop b ∧ x.line = n ∧ x.col = (b : Int) + 1 := by
  obtain ⟨m, rfl⟩ : ∃ m : List UInt8, l = m.reverse := ⟨l.reverse, by simp⟩
  induction m with
  | nil => simp [lst] at h
  | cons c r ih =>
    rw [List.reverse_cons, lst_snoc] at h ⊢
    unfold lstep at h ⊢
    by_cases hb : blankB c.toNat = true
    · rw [if_pos hb] at h; cases h
    · rw [if_neg hb] at h ⊢
      by_cases ho : (lst n r.reverse).op = true
      · rw [if_pos ho]
        obtain ⟨p, x, b, h1, h2, h3, h4, h5⟩ := ih ho
        refine ⟨p, ⟨x.text ++ [c], x.line, x.col⟩, b, by rw [h1, extLast_snoc], by simp at h2 ⊢; omega, ?_, h4, h5⟩
        simp only
        rw [h3, List.drop_append_of_le_length (by omega)]
      · rw [if_neg ho]
        refine ⟨_, _, r.reverse.length, rfl, by simp, by simp, rfl, ?_⟩
        rw [lst_i]
theorem extLast_mem {c : UInt8} {y : Wd} : ∀ {l : List Wd}, y ∈ extLast c l → y ∈ l ∨ ∃ x ∈ l, y = ⟨x.text ++ [c], x.line, x.col⟩
  | [], h => by simp [extLast] at h
  | [x], h => by simp [extLast] at h; exact .inr ⟨x, by simp, h⟩
  | x :: z :: r, h => by
    rcases List.mem_cons.1 (show y ∈ x :: extLast c (z :: r) from h) with h | h
    · exact .inl (by simp [h])
    · rcases extLast_mem h with h | ⟨q, hq, e⟩
      · exact .inl (List.mem_cons_of_mem _ h)
      · exact .inr ⟨q, List.mem_cons_of_mem _ hq, e⟩
/-- No word is empty, and each stands on its line. -/
theorem lst_full (n : Int) (l : List UInt8) : ∀ x ∈ (lst n l).out, x.text ≠ [] ∧ x.line = n := by
  obtain ⟨m, rfl⟩ : ∃ m : List UInt8, l = m.reverse := ⟨l.reverse, by simp⟩
  induction m with
  | nil => simp [lst]
  | cons c r ih =>
    rw [List.reverse_cons, lst_snoc]
    unfold lstep
    split
    · exact ih
    · split
      · intro y hy
        rcases extLast_mem hy with h | ⟨q, hq, rfl⟩
        · exact ih y h
        · exact ⟨by simp, (ih q hq).2⟩
      · intro y hy
        rcases List.mem_append.1 hy with h | h
        · exact ih y h
        · simp at h; subst h; exact ⟨by simp, rfl⟩
def notRemark (x : Wd) : Bool := x.text.head? != some 35
/-- The words of a line: up to the first that begins with a '#'. -/
def lineWords (n : Int) (l : List UInt8) : List Wd := (lst n l).out.takeWhile notRemark
theorem takeWhile_at {α : Type} (p : α → Bool) : ∀ (l : List α) (j : Nat) (h : j < l.length), (l.take j).all p = true → p l[j] = false → l.takeWhile p = l.take j
  | [], j, h, _, _ => by simp at h
  | x :: r, 0, _, _, hp => by simp at hp; simp [hp]
  | x :: r, j + 1, h, ha, hp => by
    simp at ha hp h
    rw [List.take_succ_cons, List.takeWhile_cons, if_pos ha.1, takeWhile_at p r j h (by simpa using ha.2) hp]
theorem takeWhile_all {α : Type} (p : α → Bool) (l : List α) (h : l.all p = true) : l.takeWhile p = l := by
  induction l with
  | nil => rfl
  | cons x r ih => simp at h; rw [List.takeWhile_cons, if_pos h.1, ih (by simpa using h.2)]
end Go.Proofs.YtcglbbabfkbcbabDoor
