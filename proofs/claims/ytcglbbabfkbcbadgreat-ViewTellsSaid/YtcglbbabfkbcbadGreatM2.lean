/-
  Several texts in one: Plain5, AggV.
-/
import Derived.WalkKit
import Derived.Test.YtcglbbabfkbcbadGreatM1
import Derived.Laws.Externs
import Derived.WalkSpells
import Derived.WalkLawsBesides
import Derived.Lib.Hide
import Derived.Outline
import Derived.Deep.QuietTactic
import Derived.BigQuiet
import Derived.IntWalk
import Derived.StillTailTactics
import Derived.Laws.ResultCell
import Derived.Deep.RegionHeld3
/- The plain functions of the package name: the hash of a text, which bytes may stand in a name, how texts and numbers compare. No program in sight. -/
namespace Go.Proofs.YtcglbbabfkbcbadGreat
open Go.RowKit

/-- One step of the hash. -/
def hstep (x : Int) (c : UInt8) : Int := bits BinOp.xor IntKind.u32 x ((c.toNat : Int) % 4294967296) * 16777619 % 4294967296
/-- The hash of some bytes, from a number on. -/
def hashFrom : Int → List UInt8 → Int
  | x, [] => x
  | x, c :: l => hashFrom (hstep x c) l
def hash (l : List UInt8) : Int := hashFrom 2166136261 l
theorem hashFrom_snoc (l : List UInt8) (x : Int) (c : UInt8) : hashFrom x (l ++ [c]) = hstep (hashFrom x l) c := by
  induction l generalizing x with
  | nil => rfl
  | cons a l ih => exact ih _
theorem hash_snoc (l : List UInt8) (c : UInt8) : hash (l ++ [c]) = hstep (hash l) c := hashFrom_snoc _ _ _
theorem hash_nil : hash [] = 2166136261 := rfl
theorem hash_a : hash [97] = 3826002220 := by decide +kernel
theorem hstep_bd (x : Int) (c : UInt8) : 0 ≤ hstep x c ∧ hstep x c < 4294967296 := by unfold hstep; omega
theorem hashFrom_bd (l : List UInt8) (x : Int) (h : 0 ≤ x ∧ x < 4294967296) : 0 ≤ hashFrom x l ∧ hashFrom x l < 4294967296 := by
  induction l generalizing x with
  | nil => exact h
  | cons a l ih => exact ih _ (hstep_bd x a)
theorem hash_bd (l : List UInt8) : 0 ≤ hash l ∧ hash l < 4294967296 := hashFrom_bd l _ (by decide)
theorem ret_bool {a b : Bool} (h : a = b) : Ending.returned (.bool a) = .returned (.bool b) := by rw [h]
theorem ret_int {k : IntKind} {a b : Int} (h : a = b) : Ending.returned (.int k a) = .returned (.int k b) := by rw [h]
theorem len_toList (s : ByteArray) : s.toList.length = s.size := by rw [ByteArray.toList_eq]; simp
theorem take_snoc (s : ByteArray) (k : Nat) (h : k < s.size) : s.toList.take (k + 1) = s.toList.take k ++ [s[k]] := by
  rw [ByteArray.toList_eq, List.take_succ_eq_append_getElem (by simpa using h)]; rfl
theorem get_toList (s : ByteArray) (k : Nat) (h : k < s.size) : s.toList[k]? = some s[k] := by
  rw [ByteArray.toList_eq, List.getElem?_eq_getElem (by simpa using h)]; rfl

/-- May a byte stand in a name? -/
def letterB (c : Int) : Bool := decide ((97 ≤ c ∧ c ≤ 122) ∨ (48 ≤ c ∧ c ≤ 57) ∨ c = 46 ∨ c = 95 ∨ c = 45)
theorem letter_yes {c : Int} (h : (97 ≤ c ∧ c ≤ 122) ∨ (48 ≤ c ∧ c ≤ 57) ∨ c = 46 ∨ c = 95 ∨ c = 45) : letterB c = true := decide_eq_true h
theorem letter_no {c : Int} (h : ¬((97 ≤ c ∧ c ≤ 122) ∨ (48 ≤ c ∧ c ≤ 57) ∨ c = 46 ∨ c = 95 ∨ c = 45)) : letterB c = false := decide_eq_false h
def lettersB (l : List UInt8) : Bool := l.all fun c => letterB c.toNat
/-- Is a text a name? -/
def validB (l : List UInt8) : Bool := decide (1 ≤ l.length ∧ l.length ≤ 15) && lettersB l

theorem lettersB_snoc (l : List UInt8) (c : UInt8) : lettersB (l ++ [c]) = (lettersB l && letterB c.toNat) := by simp [lettersB]
theorem letters_next (s : ByteArray) (k : Nat) (h : k < s.size) : lettersB (s.toList.take (k + 1)) = (lettersB (s.toList.take k) && letterB s[k].toNat) := by rw [take_snoc s k h, lettersB_snoc]
theorem letters_not (s : ByteArray) (k : Nat) (h : k < s.size) (hb : letterB s[k].toNat = false) : lettersB s.toList = false := by
  have h1 : s[k] ∈ s.toList := List.mem_of_getElem? (get_toList s k h)
  cases hh : lettersB s.toList
  · rfl
  · unfold lettersB at hh; rw [List.all_eq_true] at hh; have := hh _ h1; rw [hb] at this; cases this
theorem valid_short (s : ByteArray) (h : s.size < 1 ∨ 15 < s.size) : validB s.toList = false := by
  unfold validB; rw [len_toList, decide_eq_false (by omega)]; rfl
theorem valid_not (s : ByteArray) (h : lettersB s.toList = false) : validB s.toList = false := by unfold validB; rw [h, Bool.and_false]
theorem valid_is (s : ByteArray) (h1 : 1 ≤ s.size) (h2 : s.size ≤ 15) (h : lettersB s.toList = true) : validB s.toList = true := by
  unfold validB; rw [h, len_toList, decide_eq_true (by omega)]; rfl
theorem all_next {α : Type} (f : α → Bool) (l : List α) (k : Nat) (x : α) (ht : l.take (k + 1) = l.take k ++ [x]) (h : (l.take k).all f = true) (hx : f x = true) : (l.take (k + 1)).all f = true := by rw [ht]; simp [h, hx]
theorem all_not {α : Type} (f : α → Bool) (l : List α) (x : α) (hm : x ∈ l) (hx : f x = false) : l.all f = false := by
  cases hh : l.all f
  · rfl
  · rw [List.all_eq_true] at hh; have := hh _ hm; rw [hx] at this; cases this

/-- The shard of a text. -/
def shardI (l : List UInt8) (n : Int) : Int := if n < 1 then 0 else hash l % n
/-- How texts compare; how numbers do. -/
def cmpS (a b : List UInt8) : Int := if Op.bytesLess a b = true then -1 else if (!a == b) = true then 1 else 0
def cmpI (a b : Int) : Int := if a < b then -1 else if b < a then 1 else 0
/-- How records compare, by name and start. -/
def cmpR (a : List UInt8) (x : Int) (b : List UInt8) (y : Int) : Int := if cmpS a b = 0 then cmpI x y else cmpS a b
end Go.Proofs.YtcglbbabfkbcbadGreat
/- The package agg: Valid, one, both, Of, Merge. -/
namespace Go.Proofs.YtcglbbabfkbcbadGreat
open Go.RowKit

/-- What is known of some values. -/
structure Ag where
  c : Int
  hi : Int
  lo : Int
  mn : Int
  mx : Int
deriving DecidableEq
def Ag.cells (a : Ag) : List Value := [.int .i64 a.c, .int .i64 a.hi, .int .u64 a.lo, .int .i64 a.mn, .int .i64 a.mx]
abbrev Ag.val (a : Ag) : Value := .agg #[.int .i64 a.c, .int .i64 a.hi, .int .u64 a.lo, .int .i64 a.mn, .int .i64 a.mx]
def Ag.zero : Ag := ⟨0, 0, 0, 0, 0⟩
/-- The numbers lie in their kinds. -/
structure Ag.Ok (a : Ag) : Prop where
  c : -9223372036854775808 ≤ a.c ∧ a.c ≤ 9223372036854775807
  hi : -9223372036854775808 ≤ a.hi ∧ a.hi ≤ 9223372036854775807
  lo : 0 ≤ a.lo ∧ a.lo ≤ 18446744073709551615
  mn : -9223372036854775808 ≤ a.mn ∧ a.mn ≤ 9223372036854775807
  mx : -9223372036854775808 ≤ a.mx ∧ a.mx ≤ 9223372036854775807
def validG (a : Ag) : Bool := decide (1 ≤ a.c ∧ a.c ≤ 4611686018427387904 ∧ a.mn ≤ a.mx)
theorem run_add (x y c : Int) (hx : 0 ≤ x) (hy : 0 ≤ y) (hc0 : 0 ≤ c) (hc : c ≤ 1) (w : World) : (callFunc 107 #[.int .u64 x, .int .u64 y, .int .u64 c]).run Tryz.prog w =
    .ok (.value (.tuple #[.int .u64 ((x + y + c) % 18446744073709551616), .int .u64 ((x + y + c) / 18446744073709551616)])) w := by
  rw [run_callFunc_extern Tryz.func107 (by kernel_rfl) (by kernel_rfl) (by kernel_rfl) (e := add64Entry) (by kernel_rfl), run_add64 x y c hx hy hc0 hc]
  rfl
theorem wrapU (z : Int) : IntKind.u64.wrap z = z % 18446744073709551616 := by simp [IntKind.wrap, IntKind.bits, IntKind.signed]
theorem wrapU_bd (z : Int) : 0 ≤ IntKind.u64.wrap z ∧ IntKind.u64.wrap z < 18446744073709551616 := by rw [wrapU]; omega
/-- What both answers. -/
def bothG (a b : Ag) : Ag := if a.c = 0 then b else
  ⟨if a.c < 4611686018427387904 - b.c then a.c + b.c else 4611686018427387904, IntKind.i64.wrap ((IntKind.u64.wrap a.hi + IntKind.u64.wrap b.hi + (a.lo + b.lo) / 18446744073709551616) % 18446744073709551616), (a.lo + b.lo) % 18446744073709551616, min a.mn b.mn, max a.mx b.mx⟩
set_option maxRecDepth 100000 in
set_option maxHeartbeats 2000000 in
theorem both_any (a b : Ag) (w : World) (ha : a.Ok) (hb : b.Ok) (hac : 0 ≤ a.c ∧ a.c ≤ 4611686018427387904) (hbc : 0 ≤ b.c ∧ b.c ≤ 4611686018427387904) : Calls Tryz.prog 75 #[a.val, b.val] w fun e w' => e = .returned (bothG a b).val ∧ Below w.heap.size w w' := by
  by_cases h0 : a.c = 0
  · have HF := Lib.hid (show bothG a b = b from if_pos h0)
    obtain ⟨c, hi, lo, mn, mx⟩ := a
    simp only at h0
    subst h0
    go_enter Tryz.func75, Tryz.ntmps75
    go_wp2
    refine bodyPost_ret (v := b.val) (by simp [results, Tryz.results75, go_sem]) rfl ⟨by rw [HF.out], ?_⟩
    repeat (first | exact Below.refl _ _ | refine Below.setCell ?_ (by simp) _ | refine Below.alloc ?_ (by simp; try omega) _)
  · have k1 := fun W => run_add a.lo b.lo 0 ha.lo.1 hb.lo.1 (by omega) (by omega) W
    have hc := ha.lo
    have hc' := hb.lo
    have k2 := fun W => run_add (IntKind.u64.wrap a.hi) (IntKind.u64.wrap b.hi) ((a.lo + b.lo) / 18446744073709551616) (wrapU_bd _).1 (wrapU_bd _).1 (by omega) (by omega) W
    have h0' : (a.c == 0) = false := beq_eq_false_iff_ne.2 h0
    obtain ⟨a1, a2⟩ := hac
    obtain ⟨b1, b2⟩ := hbc
    by_cases h1 : a.c < 4611686018427387904 - b.c
    · have HF := Lib.hid (show bothG a b = ⟨a.c + b.c, IntKind.i64.wrap ((IntKind.u64.wrap a.hi + IntKind.u64.wrap b.hi + (a.lo + b.lo) / 18446744073709551616) % 18446744073709551616), (a.lo + b.lo) % 18446744073709551616, min a.mn b.mn, max a.mx b.mx⟩ from by unfold bothG; rw [if_neg h0, if_pos h1])
      have HV : (bothG a b).val = .agg #[.int .i64 (a.c + b.c), .int .i64 (IntKind.i64.wrap ((IntKind.u64.wrap a.hi + IntKind.u64.wrap b.hi + (a.lo + b.lo) / 18446744073709551616) % 18446744073709551616)), .int .u64 ((a.lo + b.lo) % 18446744073709551616), .int .i64 (min a.mn b.mn), .int .i64 (max a.mx b.mx)] := by unfold Ag.val; rw [HF.out]
      have HW := Lib.hid HV
      clear HV h0 hc hc'
      go_enter Tryz.func75, Tryz.ntmps75
      go_wp2
      all_goals
        rw [HW.out]
        refine bodyPost_ret (v := .agg #[.int .i64 (a.c + b.c), .int .i64 (IntKind.i64.wrap ((IntKind.u64.wrap a.hi + IntKind.u64.wrap b.hi + (a.lo + b.lo) / 18446744073709551616) % 18446744073709551616)), .int .u64 ((a.lo + b.lo) % 18446744073709551616), .int .i64 (min a.mn b.mn), .int .i64 (max a.mx b.mx)]) ?_ rfl ⟨rfl, ?_⟩
        · simp [results, Tryz.results75, go_sem]
          exact ⟨by first | rfl | (rw [IntKind.wrap_i64]; rfl) | (unfold wrap64; rw [IntKind.wrap_i64]), by omega, by omega⟩
        · repeat (first | exact Below.refl _ _ | refine Below.setCell ?_ (by simp) _ | refine Below.alloc ?_ (by simp; try omega) _)
    · have HF := Lib.hid (show bothG a b = ⟨4611686018427387904, IntKind.i64.wrap ((IntKind.u64.wrap a.hi + IntKind.u64.wrap b.hi + (a.lo + b.lo) / 18446744073709551616) % 18446744073709551616), (a.lo + b.lo) % 18446744073709551616, min a.mn b.mn, max a.mx b.mx⟩ from by unfold bothG; rw [if_neg h0, if_neg h1])
      have HV : (bothG a b).val = .agg #[.int .i64 (4611686018427387904), .int .i64 (IntKind.i64.wrap ((IntKind.u64.wrap a.hi + IntKind.u64.wrap b.hi + (a.lo + b.lo) / 18446744073709551616) % 18446744073709551616)), .int .u64 ((a.lo + b.lo) % 18446744073709551616), .int .i64 (min a.mn b.mn), .int .i64 (max a.mx b.mx)] := by unfold Ag.val; rw [HF.out]
      have HW := Lib.hid HV
      clear HV h0 hc hc'
      have hd1 : decide (a.c < 4611686018427387904 - b.c) = false := decide_eq_false h1
      go_enter Tryz.func75, Tryz.ntmps75
      go_wp2
      all_goals
        rw [HW.out]
        refine bodyPost_ret (v := .agg #[.int .i64 (4611686018427387904), .int .i64 (IntKind.i64.wrap ((IntKind.u64.wrap a.hi + IntKind.u64.wrap b.hi + (a.lo + b.lo) / 18446744073709551616) % 18446744073709551616)), .int .u64 ((a.lo + b.lo) % 18446744073709551616), .int .i64 (min a.mn b.mn), .int .i64 (max a.mx b.mx)]) ?_ rfl ⟨rfl, ?_⟩
        · simp [results, Tryz.results75, go_sem]
          exact ⟨by first | rfl | (rw [IntKind.wrap_i64]; rfl) | (unfold wrap64; rw [IntKind.wrap_i64]), by omega, by omega⟩
        · repeat (first | exact Below.refl _ _ | refine Below.setCell ?_ (by simp) _ | refine Below.alloc ?_ (by simp; try omega) _)
/-- Numbers in their kinds, and a count that can be. -/
structure Ag.Fit (a : Ag) : Prop where
  ok : a.Ok
  cnt : 0 ≤ a.c ∧ a.c ≤ 4611686018427387904
theorem Ag.Fit.zero : Ag.zero.Fit := ⟨⟨by decide, by decide, by decide, by decide, by decide⟩, by decide⟩
theorem Ag.Fit.both {a b : Ag} (ha : a.Fit) (hb : b.Fit) : (bothG a b).Fit := by
  unfold bothG
  by_cases h0 : a.c = 0
  · rw [if_pos h0]; exact hb
  · rw [if_neg h0]
    have h1 := ha.cnt
    have h2 := hb.cnt
    have h3 := ha.ok.mn
    have h4 := hb.ok.mn
    have h5 := ha.ok.mx
    have h6 := hb.ok.mx
    have hw := IntKind.wrap_i64 ((IntKind.u64.wrap a.hi + IntKind.u64.wrap b.hi + (a.lo + b.lo) / 18446744073709551616) % 18446744073709551616)
    refine ⟨⟨?_, ?_, ?_, ?_, ?_⟩, ?_⟩
    · simp only; split <;> omega
    · simp only; rw [hw]; omega
    · simp only; omega
    · simp only; omega
    · simp only; omega
    · simp only; split <;> omega
/-- What Merge answers. -/
def mergeStep (s a : Ag) : Ag := if validG a = true then bothG s a else s
def mergeL (l : List Ag) : Ag := l.foldl mergeStep Ag.zero
theorem mergeL_snoc (l : List Ag) (a : Ag) : mergeL (l ++ [a]) = mergeStep (mergeL l) a := by simp [mergeL, List.foldl_append]
theorem validG_cnt {a : Ag} (h : validG a = true) : 1 ≤ a.c ∧ a.c ≤ 4611686018427387904 ∧ a.mn ≤ a.mx := of_decide_eq_true h
theorem Ag.Fit.step {s a : Ag} (hs : s.Fit) (ha : a.Ok) : (mergeStep s a).Fit := by
  unfold mergeStep
  split
  · next h => exact hs.both ⟨ha, by have := validG_cnt h; omega⟩
  · exact hs
theorem Ag.Fit.merge : ∀ {l : List Ag}, (∀ a ∈ l, a.Ok) → (mergeL l).Fit := by
  intro l
  obtain ⟨m, rfl⟩ : ∃ m : List Ag, l = m.reverse := ⟨l.reverse, by simp⟩
  induction m with
  | nil => intro _; exact Ag.Fit.zero
  | cons a r ih =>
    intro h
    rw [List.reverse_cons, mergeL_snoc]
    exact (ih (fun x hx => h x (by simp at hx ⊢; exact .inl hx))).step (h a (by simp))
/-- A slice of them. -/
structure Ags (w : World) (A : Option Addr) (n : Nat) (l : List Ag) : Prop where
  sl : Sl w A (l.flatMap Ag.cells)
  len : l.length = n
  n_le : n ≤ maxLen
  ok : ∀ a ∈ l, a.Ok
theorem flat_get (l : List Ag) (j : Nat) (hj : j < l.length) (q : Nat) (hq : q < 5) : (l.flatMap Ag.cells)[j * 5 + q]? = l[j].cells[q]? := by
  induction l generalizing j with
  | nil => simp at hj
  | cons a r ih =>
    rw [List.flatMap_cons]
    cases j with
    | zero =>
      rw [List.getElem?_append_left (by show 0 * 5 + q < 5; omega)]; simp
    | succ j =>
      rw [List.getElem?_append_right (by show 5 ≤ _; omega)]
      have : (j + 1) * 5 + q - a.cells.length = j * 5 + q := by show (j + 1) * 5 + q - 5 = _; omega
      rw [this, ih j (by simp at hj; omega)]; rfl
theorem Ags.get {w : World} {A : Option Addr} {n : Nat} {l : List Ag} (h : Ags w A n l) {j : Nat} (hj : j < l.length) : ∃ b off, A = some ⟨b, off, none⟩ ∧ b < w.heap.size ∧
    w.cell? ⟨b, off + j * 5, none⟩ = some (.int .i64 l[j].c) ∧ w.cell? ⟨b, off + j * 5 + 1, none⟩ = some (.int .i64 l[j].hi) ∧ w.cell? ⟨b, off + j * 5 + 2, none⟩ = some (.int .u64 l[j].lo) ∧
    w.cell? ⟨b, off + j * 5 + 3, none⟩ = some (.int .i64 l[j].mn) ∧ w.cell? ⟨b, off + j * 5 + 4, none⟩ = some (.int .i64 l[j].mx) := by
  have hne : l.flatMap Ag.cells ≠ [] := by
    cases l with
    | nil => simp at hj
    | cons a r => simp [Ag.cells]
  obtain ⟨b, off, e, hb, hc⟩ := h.sl.at_ hne
  have g := fun q hq => flat_get l j hj q hq
  have c0 := hc (j * 5 + 0) _ (g 0 (by omega))
  have c1 := hc (j * 5 + 1) _ (g 1 (by omega))
  have c2 := hc (j * 5 + 2) _ (g 2 (by omega))
  have c3 := hc (j * 5 + 3) _ (g 3 (by omega))
  have c4 := hc (j * 5 + 4) _ (g 4 (by omega))
  exact ⟨b, off, e, hb, c0, by rw [← Nat.add_assoc] at c1; exact c1, by rw [← Nat.add_assoc] at c2; exact c2, by rw [← Nat.add_assoc] at c3; exact c3, by rw [← Nat.add_assoc] at c4; exact c4⟩
theorem Ags.below {w w' : World} {A : Option Addr} {n : Nat} {l : List Ag} (h : Ags w A n l) (hb : Below w.heap.size w w') : Ags w' A n l := ⟨h.sl.below hb, h.len, h.n_le, h.ok⟩
/-- One of them in a block of its own. -/
structure AgBox (w : World) (b : Nat) (a : Ag) : Prop where
  blk : w.heap[b]? = some (.cells #[.int .i64 a.c, .int .i64 a.hi, .int .u64 a.lo, .int .i64 a.mn, .int .i64 a.mx] 59 (0, 0))
theorem AgBox.lt {w : World} {b : Nat} {a : Ag} (h : AgBox w b a) : b < w.heap.size := lt_of_block h.blk
theorem AgBox.cells {w : World} {b : Nat} {a : Ag} (h : AgBox w b a) : w.cell? ⟨b, 0, none⟩ = some (.int .i64 a.c) ∧ w.cell? ⟨b, 1, none⟩ = some (.int .i64 a.hi) ∧ w.cell? ⟨b, 2, none⟩ = some (.int .u64 a.lo) ∧ w.cell? ⟨b, 3, none⟩ = some (.int .i64 a.mn) ∧ w.cell? ⟨b, 4, none⟩ = some (.int .i64 a.mx) :=
  ⟨cell_of_row w b 0 _ _ _ h.blk, cell_of_row w b 1 _ _ _ h.blk, cell_of_row w b 2 _ _ _ h.blk, cell_of_row w b 3 _ _ _ h.blk, cell_of_row w b 4 _ _ _ h.blk⟩
theorem AgBox.free {w : World} {b : Nat} {a : Ag} (h : AgBox w b a) (j : Nat) : w.frozen? ⟨b, j, none⟩ = false := frozen_of_row w b j _ _ h.blk
theorem AgBox.below {w w' : World} {b : Nat} {a : Ag} (h : AgBox w b a) (hb : Below w.heap.size w w') : AgBox w' b a := ⟨(hb.block b h.lt).trans h.blk⟩
theorem AgBox.new (w : World) (a : Ag) : AgBox (w.alloc (.cells #[.int .i64 a.c, .int .i64 a.hi, .int .u64 a.lo, .int .i64 a.mn, .int .i64 a.mx] 59)) w.heap.size a := ⟨heap_alloc_new w _⟩
theorem AgBox.set {w : World} {b : Nat} {a : Ag} (h : AgBox w b a) (x : Ag) : AgBox (((((w.setCell ⟨b, 0, none⟩ (.int .i64 x.c)).setCell ⟨b, 1, none⟩ (.int .i64 x.hi)).setCell ⟨b, 2, none⟩ (.int .u64 x.lo)).setCell ⟨b, 3, none⟩ (.int .i64 x.mn)).setCell ⟨b, 4, none⟩ (.int .i64 x.mx)) b x := by
  have h0 := heap_setCell_same w b 0 _ _ (.int .i64 x.c) h.blk
  have h1 := heap_setCell_same _ b 1 _ _ (.int .i64 x.hi) h0
  have h2 := heap_setCell_same _ b 2 _ _ (.int .u64 x.lo) h1
  have h3 := heap_setCell_same _ b 3 _ _ (.int .i64 x.mn) h2
  have h4 := heap_setCell_same _ b 4 _ _ (.int .i64 x.mx) h3
  exact ⟨h4⟩
theorem AgBox.other {w : World} {b : Nat} {a : Ag} (h : AgBox w b a) {p : Addr} (hp : b ≠ p.block) (u : Value) : AgBox (w.setCell p u) b a := ⟨(heap_setCell_other w p b u hp).trans h.blk⟩
end Go.Proofs.YtcglbbabfkbcbadGreat
