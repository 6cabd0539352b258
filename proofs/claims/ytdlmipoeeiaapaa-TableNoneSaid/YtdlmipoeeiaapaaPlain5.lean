/-
  The plain functions of the package name: the hash of a text, which bytes may stand in a name, how texts and numbers compare. No program in sight.
-/
import Derived.WalkKit
namespace Go.Proofs.Ytdlmipoeeiaapaa
open Go.RowKit

/-- One step of the hash. -/
def hstep (x : Int) (c : UInt8) : Int := bits BinOp.xor IntKind.u32 x ((c.toNat : Int) % 4294967296) * 16777619 % 4294967296
/-- The hash of some bytes, from a number on. -/
def hashFrom : Int → List UInt8 → Int
  | x, [] => x
  | x, c :: l => hashFrom (hstep x c) l
def hash (l : List UInt8) : Int := hashFrom 2166136261 l
theorem hashFrom_snoc (l : List UInt8) (x : Int) (c : UInt8) : hashFrom x (l ++ [c]) = hstep (hashFrom x l) c := by
  induction l generalizing x with
  | nil => rfl
  | cons a l ih => exact ih _
theorem hash_snoc (l : List UInt8) (c : UInt8) : hash (l ++ [c]) = hstep (hash l) c := hashFrom_snoc _ _ _
theorem hash_nil : hash [] = 2166136261 := rfl
theorem hash_a : hash [97] = 3826002220 := by decide +kernel
theorem hstep_bd (x : Int) (c : UInt8) : 0 ≤ hstep x c ∧ hstep x c < 4294967296 := by unfold hstep; omega
theorem hashFrom_bd (l : List UInt8) (x : Int) (h : 0 ≤ x ∧ x < 4294967296) : 0 ≤ hashFrom x l ∧ hashFrom x l < 4294967296 := by
  induction l generalizing x with
  | nil => exact h
  | cons a l ih => exact ih _ (hstep_bd x a)
theorem hash_bd (l : List UInt8) : 0 ≤ hash l ∧ hash l < 4294967296 := hashFrom_bd l _ (by decide)
theorem ret_bool {a b : Bool} (h : a = b) : Ending.returned (.bool a) = .returned (.bool b) := by rw [h]
theorem ret_int {k : IntKind} {a b : Int} (h : a = b) : Ending.returned (.int k a) = .returned (.int k b) := by rw [h]
theorem len_toList (s : ByteArray) : s.toList.length = s.size := by rw [ByteArray.toList_eq]; simp
theorem take_snoc (s : ByteArray) (k : Nat) (h : k < s.size) : s.toList.take (k + 1) = s.toList.take k ++ [s[k]] := by
  rw [ByteArray.toList_eq, List.take_succ_eq_append_getElem (by simpa using h)]; rfl
theorem get_toList (s : ByteArray) (k : Nat) (h : k < s.size) : s.toList[k]? = some s[k] := by
  rw [ByteArray.toList_eq, List.getElem?_eq_getElem (by simpa using h)]; rfl

/-- May a byte stand in a name? -/
def letterB (c : Int) : Bool := decide ((97 ≤ c ∧ c ≤ 122) ∨ (48 ≤ c ∧ c ≤ 57) ∨ c = 46 ∨ c = 95 ∨ c = 45)
theorem letter_yes {c : Int} (h : (97 ≤ c ∧ c ≤ 122) ∨ (48 ≤ c ∧ c ≤ 57) ∨ c = 46 ∨ c = 95 ∨ c = 45) : letterB c = true := decide_eq_true h
theorem letter_no {c : Int} (h : ¬((97 ≤ c ∧ c ≤ 122) ∨ (48 ≤ c ∧ c ≤ 57) ∨ c = 46 ∨ c = 95 ∨ c = 45)) : letterB c = false := decide_eq_false h
def lettersB (l : List UInt8) : Bool := l.all fun c => letterB c.toNat
/-- Is a text a name? -/
def validB (l : List UInt8) : Bool := decide (1 ≤ l.length ∧ l.length ≤ 15) && lettersB l

theorem lettersB_snoc (l : List UInt8) (c : UInt8) : lettersB (l ++ [c]) = (lettersB l && letterB c.toNat) := by simp [lettersB]
theorem letters_next (s : ByteArray) (k : Nat) (h : k < s.size) : lettersB (s.toList.take (k + 1)) = (lettersB (s.toList.take k) && letterB s[k].toNat) := by rw [take_snoc s k h, lettersB_snoc]
theorem letters_not (s : ByteArray) (k : Nat) (h : k < s.size) (hb : letterB s[k].toNat = false) : lettersB s.toList = false := by
  have h1 : s[k] ∈ s.toList := List.mem_of_getElem? (get_toList s k h)
  cases hh : lettersB s.toList
  · rfl
  · unfold lettersB at hh; rw [List.all_eq_true] at hh; have := hh _ h1; rw [hb] at this; cases this
theorem valid_short (s : ByteArray) (h : s.size < 1 ∨ 15 < s.size) : validB s.toList = false := by
  unfold validB; rw [len_toList, decide_eq_false (by omega)]; rfl
theorem valid_not (s : ByteArray) (h : lettersB s.toList = false) : validB s.toList = false := by unfold validB; rw [h, Bool.and_false]
theorem valid_is (s : ByteArray) (h1 : 1 ≤ s.size) (h2 : s.size ≤ 15) (h : lettersB s.toList = true) : validB s.toList = true := by
  unfold validB; rw [h, len_toList, decide_eq_true (by omega)]; rfl
theorem all_next {α : Type} (f : α → Bool) (l : List α) (k : Nat) (x : α) (ht : l.take (k + 1) = l.take k ++ [x]) (h : (l.take k).all f = true) (hx : f x = true) : (l.take (k + 1)).all f = true := by rw [ht]; simp [h, hx]
theorem all_not {α : Type} (f : α → Bool) (l : List α) (x : α) (hm : x ∈ l) (hx : f x = false) : l.all f = false := by
  cases hh : l.all f
  · rfl
  · rw [List.all_eq_true] at hh; have := hh _ hm; rw [hx] at this; cases this

/-- The shard of a text. -/
def shardI (l : List UInt8) (n : Int) : Int := if n < 1 then 0 else hash l % n
/-- How texts compare; how numbers do. -/
def cmpS (a b : List UInt8) : Int := if Op.bytesLess a b = true then -1 else if (!a == b) = true then 1 else 0
def cmpI (a b : Int) : Int := if a < b then -1 else if b < a then 1 else 0
/-- How records compare, by name and start. -/
def cmpR (a : List UInt8) (x : Int) (b : List UInt8) (y : Int) : Int := if cmpS a b = 0 then cmpI x y else cmpS a b
end Go.Proofs.Ytdlmipoeeiaapaa
