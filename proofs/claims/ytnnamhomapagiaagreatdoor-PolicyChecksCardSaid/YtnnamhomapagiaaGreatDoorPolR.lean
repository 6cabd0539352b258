/-
  A policy's text: what is read out of words; numbers. On lists; no program in sight.
-/
import Derived.Test.YtnnamhomapagiaaGreatDoorWordLinesP
import Derived.Test.YtnnamhomapagiaaGreatDoorPolP
import Derived.Lib.Strings
import Derived.Lib.ItoaNum
namespace Go.Proofs.YtnnamhomapagiaaGreatDoor
open Go.RowKit

def digB (c : UInt8) : Bool := decide (48 ≤ c.toNat) && decide (c.toNat ≤ 57)
def numN (l : List UInt8) : Nat := l.foldl (fun n c => 10 * n + (c.toNat - 48)) 0
theorem numN_snoc (l : List UInt8) (c : UInt8) : numN (l ++ [c]) = 10 * numN l + (c.toNat - 48) := by simp [numN, List.foldl_append]
def numBad (d : List UInt8) (below : Bool) : Bool := decide (d.length = 0) || (decide (18 < d.length) || (d.head? == some 48 && (decide (1 < d.length) || below)))
/-- What digits say. -/
def numR (s : List UInt8) : Option Int :=
  if numBad (Lib.trimPrefix s [45]) (Lib.hasPrefix s [45]) = true then none
  else if (Lib.trimPrefix s [45]).all digB = true then some (if Lib.hasPrefix s [45] = true then -(numN (Lib.trimPrefix s [45]) : Int) else numN (Lib.trimPrefix s [45]))
  else none
def numV : Option Int → Value
  | some n => .tuple #[.int .i64 n, .int .i64 0]
  | none => .tuple #[.int .i64 0, .int .i64 1]
theorem numN_lt : ∀ (l : List UInt8), l.all digB = true → numN l < 10 ^ l.length := by
  intro l
  obtain ⟨m, rfl⟩ : ∃ m : List UInt8, l = m.reverse := ⟨l.reverse, by simp⟩
  induction m with
  | nil => intro _; simp [numN]
  | cons c r ih =>
    intro h
    rw [List.reverse_cons, List.all_append, Bool.and_eq_true] at h
    have h1 := ih h.1
    have h2 : digB c = true := by simpa using h.2
    unfold digB at h2
    simp only [Bool.and_eq_true, decide_eq_true_eq] at h2
    rw [List.reverse_cons, numN_snoc, List.length_append, List.length_cons, List.length_nil, Nat.zero_add, Nat.pow_succ]
    omega
theorem numR_bd {s : List UInt8} {n : Int} (h : numR s = some n) : -1000000000000000000 < n ∧ n < 1000000000000000000 := by
  unfold numR at h
  split at h
  · cases h
  · next hb =>
    split at h
    · next ha =>
      have h1 := numN_lt _ ha
      have h18 : (Lib.trimPrefix s [45]).length ≤ 18 := by
        unfold numBad at hb
        simp only [Bool.or_eq_true, decide_eq_true_eq, not_or] at hb
        omega
      have h2 : 10 ^ (Lib.trimPrefix s [45]).length ≤ 10 ^ 18 := Nat.pow_le_pow_right (by omega) h18
      have h3 : (10 : Nat) ^ 18 = 1000000000000000000 := by decide
      injection h with h
      split at h <;> omega
    · cases h
def sPolicy : List UInt8 := [112, 111, 108, 105, 99, 121]
def sTier : List UInt8 := [116, 105, 101, 114]
def sEvery : List UInt8 := [101, 118, 101, 114, 121]
def sKeep : List UInt8 := [107, 101, 101, 112]
def sShards : List UInt8 := [115, 104, 97, 114, 100, 115]
/-- The i-th of some texts. -/
def txt (g : List (List UInt8)) (i : Nat) : List UInt8 := g.getD i []
def txts (l : List Wd) : List (List UInt8) := l.map Wd.text
theorem txt_at {l : List Wd} {i : Nat} (h : i < l.length) : txt (txts l) i = l[i].text := by simp [txt, txts, List.getD, List.getElem?_eq_getElem h]
/-- A number with its word ahead of it. -/
def numOk (g : List (List UInt8)) (i : Nat) (what : List UInt8) : Bool := (txt g i == what) && (numR (txt g (i + 1))).isSome
def numAt (g : List (List UInt8)) (i : Nat) : Int := (numR (txt g (i + 1))).getD 0
def headOk (g : List (List UInt8)) : Bool := decide (g.length = 2) && (txt g 0 == sPolicy)
def tierOk (g : List (List UInt8)) (n : Nat) : Bool := (decide (g.length = 8) && ((txt g 0 == sTier) && !decide (n = 5))) && (numOk g 2 sEvery && (numOk g 4 sKeep && numOk g 6 sShards))
def tierT (g : List (List UInt8)) : Ti := ⟨⟨(txt g 1).toArray⟩, numAt g 2, numAt g 4, numAt g 6⟩
/-- The words of the first word's line, and those behind them. -/
def lineHd (l : List Wd) : List Wd := match l with
  | [] => []
  | x :: _ => l.takeWhile (fun y => decide (y.line = x.line))
def lineTl (l : List Wd) : List Wd := l.drop (lineHd l).length
inductive Rd where
  | bad (e at_ : Int)
  | good (nm : List UInt8) (ts : List Ti)
def lineAt (l : List Wd) : Int := match l with
  | [] => 1
  | x :: _ => x.line
/-- The tiers' lines. -/
def tiersR (nm : List UInt8) : Nat → List Wd → List Ti → Rd
  | 0, _, acc => .good nm acc
  | f + 1, l, acc => if l = [] then .good nm acc else if tierOk (txts (lineHd l)) acc.length = true then tiersR nm f (lineTl l) (acc ++ [tierT (txts (lineHd l))]) else .bad 22 (lineAt l)
def parseW (l : List Wd) : Rd := if headOk (txts (lineHd l)) = true then tiersR (txt (txts (lineHd l)) 1) l.length (lineTl l) [] else .bad 22 (lineAt l)
def parseT (s : ByteArray) : Rd :=
  if 4000 < s.size then .bad 2 0 else if cutE 1 (linesL s) ≠ 0 then .bad 22 (cutE 1 (linesL s)) else parseW (cutW 1 (linesL s))
theorem lineHd_len (l : List Wd) (h : l ≠ []) : 1 ≤ (lineHd l).length := by
  match l, h with
  | x :: r, _ => unfold lineHd; simp
theorem lineTl_len (l : List Wd) (h : l ≠ []) : (lineTl l).length < l.length := by
  have := lineHd_len l h
  have : 0 < l.length := List.length_pos_iff.2 h
  unfold lineTl
  rw [List.length_drop]; omega
theorem numAt_bd (g : List (List UInt8)) (i : Nat) : -9223372036854775808 ≤ numAt g i ∧ numAt g i ≤ 9223372036854775807 := by
  unfold numAt
  cases h : numR (txt g (i + 1)) with
  | none => simp
  | some n => have := numR_bd h; simp; omega
end Go.Proofs.YtnnamhomapagiaaGreatDoor
