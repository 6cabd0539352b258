/-
  The package agg: Valid, one, both, Of, Merge.
-/
import Derived.Test.YtdlmipoeeiaapaaMem
import Derived.Test.YtdlmipoeeiaapaaPlain5
import Derived.Laws.Externs
import Derived.WalkSpells
import Derived.WalkLawsBesides
import Derived.Lib.Hide
import Derived.Outline
import Derived.Deep.QuietTactic
import Derived.BigQuiet
import Derived.IntWalk
import Derived.StillTailTactics
import Derived.Laws.ResultCell
import Derived.Deep.RegionHeld3
namespace Go.Proofs.Ytdlmipoeeiaapaa
open Go.RowKit

/-- What is known of some values. -/
structure Ag where
  c : Int
  hi : Int
  lo : Int
  mn : Int
  mx : Int
deriving DecidableEq
def Ag.cells (a : Ag) : List Value := [.int .i64 a.c, .int .i64 a.hi, .int .u64 a.lo, .int .i64 a.mn, .int .i64 a.mx]
abbrev Ag.val (a : Ag) : Value := .agg #[.int .i64 a.c, .int .i64 a.hi, .int .u64 a.lo, .int .i64 a.mn, .int .i64 a.mx]
def Ag.zero : Ag := ⟨0, 0, 0, 0, 0⟩
/-- The numbers lie in their kinds. -/
structure Ag.Ok (a : Ag) : Prop where
  c : -9223372036854775808 ≤ a.c ∧ a.c ≤ 9223372036854775807
  hi : -9223372036854775808 ≤ a.hi ∧ a.hi ≤ 9223372036854775807
  lo : 0 ≤ a.lo ∧ a.lo ≤ 18446744073709551615
  mn : -9223372036854775808 ≤ a.mn ∧ a.mn ≤ 9223372036854775807
  mx : -9223372036854775808 ≤ a.mx ∧ a.mx ≤ 9223372036854775807
def validG (a : Ag) : Bool := decide (1 ≤ a.c ∧ a.c ≤ 4611686018427387904 ∧ a.mn ≤ a.mx)
theorem run_add (x y c : Int) (hx : 0 ≤ x) (hy : 0 ≤ y) (hc0 : 0 ≤ c) (hc : c ≤ 1) (w : World) : (callFunc 65 #[.int .u64 x, .int .u64 y, .int .u64 c]).run Try.prog w =
    .ok (.value (.tuple #[.int .u64 ((x + y + c) % 18446744073709551616), .int .u64 ((x + y + c) / 18446744073709551616)])) w := by
  rw [run_callFunc_extern Try.func65 (by kernel_rfl) (by kernel_rfl) (by kernel_rfl) (e := add64Entry) (by kernel_rfl), run_add64 x y c hx hy hc0 hc]
  rfl
set_option maxHeartbeats 1000000 in
theorem validG_any (a : Ag) (w : World) : Calls Try.prog 51 #[a.val] w fun e w' => e = .returned (.bool (validG a)) ∧ w' = w.alloc (.cells #[.int .i64 a.c, .int .i64 a.hi, .int .u64 a.lo, .int .i64 a.mn, .int .i64 a.mx] 32) := by
  by_cases h1 : 1 ≤ a.c
  · by_cases h2 : a.c ≤ 4611686018427387904
    · have HF := Lib.hid (show validG a = decide (a.mn ≤ a.mx) from by unfold validG; simp [h1, h2])
      go_enter Try.func51, Try.ntmps51
      go_wp2
      go_ret
      exact ⟨ret_bool HF.out.symm, rfl⟩
    · have HF := Lib.hid (show validG a = false from by unfold validG; simp [h2])
      have hd : decide (a.c ≤ 4611686018427387904) = false := decide_eq_false h2
      go_enter Try.func51, Try.ntmps51
      go_wp2
      go_ret
      exact ⟨ret_bool HF.out.symm, rfl⟩
  · have HF := Lib.hid (show validG a = false from by unfold validG; simp [h1])
    have hd : decide (1 ≤ a.c) = false := decide_eq_false h1
    go_enter Try.func51, Try.ntmps51
    go_wp2
    go_ret
    exact ⟨ret_bool HF.out.symm, rfl⟩
theorem wrapU (z : Int) : IntKind.u64.wrap z = z % 18446744073709551616 := by simp [IntKind.wrap, IntKind.bits, IntKind.signed]
theorem wrapU_bd (z : Int) : 0 ≤ IntKind.u64.wrap z ∧ IntKind.u64.wrap z < 18446744073709551616 := by rw [wrapU]; omega
/-- What both answers. -/
def bothG (a b : Ag) : Ag := if a.c = 0 then b else
  ⟨if a.c < 4611686018427387904 - b.c then a.c + b.c else 4611686018427387904, IntKind.i64.wrap ((IntKind.u64.wrap a.hi + IntKind.u64.wrap b.hi + (a.lo + b.lo) / 18446744073709551616) % 18446744073709551616), (a.lo + b.lo) % 18446744073709551616, min a.mn b.mn, max a.mx b.mx⟩
set_option maxRecDepth 100000 in
set_option maxHeartbeats 2000000 in
theorem both_any (a b : Ag) (w : World) (ha : a.Ok) (hb : b.Ok) (hac : 0 ≤ a.c ∧ a.c ≤ 4611686018427387904) (hbc : 0 ≤ b.c ∧ b.c ≤ 4611686018427387904) : Calls Try.prog 47 #[a.val, b.val] w fun e w' => e = .returned (bothG a b).val ∧ Below w.heap.size w w' := by
  by_cases h0 : a.c = 0
  · have HF := Lib.hid (show bothG a b = b from if_pos h0)
    obtain ⟨c, hi, lo, mn, mx⟩ := a
    simp only at h0
    subst h0
    go_enter Try.func47, Try.ntmps47
    go_wp2
    refine bodyPost_ret (v := b.val) (by simp [results, Try.results47, go_sem]) rfl ⟨by rw [HF.out], ?_⟩
    repeat (first | exact Below.refl _ _ | refine Below.setCell ?_ (by simp) _ | refine Below.alloc ?_ (by simp; try omega) _)
  · have k1 := fun W => run_add a.lo b.lo 0 ha.lo.1 hb.lo.1 (by omega) (by omega) W
    have hc := ha.lo
    have hc' := hb.lo
    have k2 := fun W => run_add (IntKind.u64.wrap a.hi) (IntKind.u64.wrap b.hi) ((a.lo + b.lo) / 18446744073709551616) (wrapU_bd _).1 (wrapU_bd _).1 (by omega) (by omega) W
    have h0' : (a.c == 0) = false := beq_eq_false_iff_ne.2 h0
    obtain ⟨a1, a2⟩ := hac
    obtain ⟨b1, b2⟩ := hbc
    by_cases h1 : a.c < 4611686018427387904 - b.c
    · have HF := Lib.hid (show bothG a b = ⟨a.c + b.c, IntKind.i64.wrap ((IntKind.u64.wrap a.hi + IntKind.u64.wrap b.hi + (a.lo + b.lo) / 18446744073709551616) % 18446744073709551616), (a.lo + b.lo) % 18446744073709551616, min a.mn b.mn, max a.mx b.mx⟩ from by unfold bothG; rw [if_neg h0, if_pos h1])
      have HV : (bothG a b).val = .agg #[.int .i64 (a.c + b.c), .int .i64 (IntKind.i64.wrap ((IntKind.u64.wrap a.hi + IntKind.u64.wrap b.hi + (a.lo + b.lo) / 18446744073709551616) % 18446744073709551616)), .int .u64 ((a.lo + b.lo) % 18446744073709551616), .int .i64 (min a.mn b.mn), .int .i64 (max a.mx b.mx)] := by unfold Ag.val; rw [HF.out]
      have HW := Lib.hid HV
      clear HV h0 hc hc'
      go_enter Try.func47, Try.ntmps47
      go_wp2
      all_goals
        rw [HW.out]
        refine bodyPost_ret (v := .agg #[.int .i64 (a.c + b.c), .int .i64 (IntKind.i64.wrap ((IntKind.u64.wrap a.hi + IntKind.u64.wrap b.hi + (a.lo + b.lo) / 18446744073709551616) % 18446744073709551616)), .int .u64 ((a.lo + b.lo) % 18446744073709551616), .int .i64 (min a.mn b.mn), .int .i64 (max a.mx b.mx)]) ?_ rfl ⟨rfl, ?_⟩
        · simp [results, Try.results47, go_sem]
          exact ⟨by first | rfl | (rw [IntKind.wrap_i64]; rfl) | (unfold wrap64; rw [IntKind.wrap_i64]), by omega, by omega⟩
        · repeat (first | exact Below.refl _ _ | refine Below.setCell ?_ (by simp) _ | refine Below.alloc ?_ (by simp; try omega) _)
    · have HF := Lib.hid (show bothG a b = ⟨4611686018427387904, IntKind.i64.wrap ((IntKind.u64.wrap a.hi + IntKind.u64.wrap b.hi + (a.lo + b.lo) / 18446744073709551616) % 18446744073709551616), (a.lo + b.lo) % 18446744073709551616, min a.mn b.mn, max a.mx b.mx⟩ from by unfold bothG; rw [if_neg h0, if_neg h1])
      have HV : (bothG a b).val = .agg #[.int .i64 (4611686018427387904), .int .i64 (IntKind.i64.wrap ((IntKind.u64.wrap a.hi + IntKind.u64.wrap b.hi + (a.lo + b.lo) / 18446744073709551616) % 18446744073709551616)), .int .u64 ((a.lo + b.lo) % 18446744073709551616), .int .i64 (min a.mn b.mn), .int .i64 (max a.mx b.mx)] := by unfold Ag.val; rw [HF.out]
      have HW := Lib.hid HV
      clear HV h0 hc hc'
      have hd1 : decide (a.c < 4611686018427387904 - b.c) = false := decide_eq_false h1
      go_enter Try.func47, Try.ntmps47
      go_wp2
      all_goals
        rw [HW.out]
        refine bodyPost_ret (v := .agg #[.int .i64 (4611686018427387904), .int .i64 (IntKind.i64.wrap ((IntKind.u64.wrap a.hi + IntKind.u64.wrap b.hi + (a.lo + b.lo) / 18446744073709551616) % 18446744073709551616)), .int .u64 ((a.lo + b.lo) % 18446744073709551616), .int .i64 (min a.mn b.mn), .int .i64 (max a.mx b.mx)]) ?_ rfl ⟨rfl, ?_⟩
        · simp [results, Try.results47, go_sem]
          exact ⟨by first | rfl | (rw [IntKind.wrap_i64]; rfl) | (unfold wrap64; rw [IntKind.wrap_i64]), by omega, by omega⟩
        · repeat (first | exact Below.refl _ _ | refine Below.setCell ?_ (by simp) _ | refine Below.alloc ?_ (by simp; try omega) _)
/-- Numbers in their kinds, and a count that can be. -/
structure Ag.Fit (a : Ag) : Prop where
  ok : a.Ok
  cnt : 0 ≤ a.c ∧ a.c ≤ 4611686018427387904
theorem Ag.Fit.zero : Ag.zero.Fit := ⟨⟨by decide, by decide, by decide, by decide, by decide⟩, by decide⟩
theorem Ag.Fit.both {a b : Ag} (ha : a.Fit) (hb : b.Fit) : (bothG a b).Fit := by
  unfold bothG
  by_cases h0 : a.c = 0
  · rw [if_pos h0]; exact hb
  · rw [if_neg h0]
    have h1 := ha.cnt
    have h2 := hb.cnt
    have h3 := ha.ok.mn
    have h4 := hb.ok.mn
    have h5 := ha.ok.mx
    have h6 := hb.ok.mx
    have hw := IntKind.wrap_i64 ((IntKind.u64.wrap a.hi + IntKind.u64.wrap b.hi + (a.lo + b.lo) / 18446744073709551616) % 18446744073709551616)
    refine ⟨⟨?_, ?_, ?_, ?_, ?_⟩, ?_⟩
    · simp only; split <;> omega
    · simp only; rw [hw]; omega
    · simp only; omega
    · simp only; omega
    · simp only; omega
    · simp only; split <;> omega
/-- What Merge answers. -/
def mergeStep (s a : Ag) : Ag := if validG a = true then bothG s a else s
def mergeL (l : List Ag) : Ag := l.foldl mergeStep Ag.zero
theorem mergeL_snoc (l : List Ag) (a : Ag) : mergeL (l ++ [a]) = mergeStep (mergeL l) a := by simp [mergeL, List.foldl_append]
theorem validG_cnt {a : Ag} (h : validG a = true) : 1 ≤ a.c ∧ a.c ≤ 4611686018427387904 ∧ a.mn ≤ a.mx := of_decide_eq_true h
theorem Ag.Fit.step {s a : Ag} (hs : s.Fit) (ha : a.Ok) : (mergeStep s a).Fit := by
  unfold mergeStep
  split
  · next h => exact hs.both ⟨ha, by have := validG_cnt h; omega⟩
  · exact hs
theorem Ag.Fit.merge : ∀ {l : List Ag}, (∀ a ∈ l, a.Ok) → (mergeL l).Fit := by
  intro l
  obtain ⟨m, rfl⟩ : ∃ m : List Ag, l = m.reverse := ⟨l.reverse, by simp⟩
  induction m with
  | nil => intro _; exact Ag.Fit.zero
  | cons a r ih =>
    intro h
    rw [List.reverse_cons, mergeL_snoc]
    exact (ih (fun x hx => h x (by simp at hx ⊢; exact .inl hx))).step (h a (by simp))
/-- A slice of them. -/
structure Ags (w : World) (A : Option Addr) (n : Nat) (l : List Ag) : Prop where
  sl : Sl w A (l.flatMap Ag.cells)
  len : l.length = n
  n_le : n ≤ maxLen
  ok : ∀ a ∈ l, a.Ok
theorem flat_get (l : List Ag) (j : Nat) (hj : j < l.length) (q : Nat) (hq : q < 5) : (l.flatMap Ag.cells)[j * 5 + q]? = l[j].cells[q]? := by
  induction l generalizing j with
  | nil => simp at hj
  | cons a r ih =>
    rw [List.flatMap_cons]
    cases j with
    | zero =>
      rw [List.getElem?_append_left (by show 0 * 5 + q < 5; omega)]; simp
    | succ j =>
      rw [List.getElem?_append_right (by show 5 ≤ _; omega)]
      have : (j + 1) * 5 + q - a.cells.length = j * 5 + q := by show (j + 1) * 5 + q - 5 = _; omega
      rw [this, ih j (by simp at hj; omega)]; rfl
theorem Ags.get {w : World} {A : Option Addr} {n : Nat} {l : List Ag} (h : Ags w A n l) {j : Nat} (hj : j < l.length) : ∃ b off, A = some ⟨b, off, none⟩ ∧ b < w.heap.size ∧
    w.cell? ⟨b, off + j * 5, none⟩ = some (.int .i64 l[j].c) ∧ w.cell? ⟨b, off + j * 5 + 1, none⟩ = some (.int .i64 l[j].hi) ∧ w.cell? ⟨b, off + j * 5 + 2, none⟩ = some (.int .u64 l[j].lo) ∧
    w.cell? ⟨b, off + j * 5 + 3, none⟩ = some (.int .i64 l[j].mn) ∧ w.cell? ⟨b, off + j * 5 + 4, none⟩ = some (.int .i64 l[j].mx) := by
  have hne : l.flatMap Ag.cells ≠ [] := by
    cases l with
    | nil => simp at hj
    | cons a r => simp [Ag.cells]
  obtain ⟨b, off, e, hb, hc⟩ := h.sl.at_ hne
  have g := fun q hq => flat_get l j hj q hq
  have c0 := hc (j * 5 + 0) _ (g 0 (by omega))
  have c1 := hc (j * 5 + 1) _ (g 1 (by omega))
  have c2 := hc (j * 5 + 2) _ (g 2 (by omega))
  have c3 := hc (j * 5 + 3) _ (g 3 (by omega))
  have c4 := hc (j * 5 + 4) _ (g 4 (by omega))
  exact ⟨b, off, e, hb, c0, by rw [← Nat.add_assoc] at c1; exact c1, by rw [← Nat.add_assoc] at c2; exact c2, by rw [← Nat.add_assoc] at c3; exact c3, by rw [← Nat.add_assoc] at c4; exact c4⟩
theorem Ags.below {w w' : World} {A : Option Addr} {n : Nat} {l : List Ag} (h : Ags w A n l) (hb : Below w.heap.size w w') : Ags w' A n l := ⟨h.sl.below hb, h.len, h.n_le, h.ok⟩
/-- One of them in a block of its own. -/
structure AgBox (w : World) (b : Nat) (a : Ag) : Prop where
  blk : w.heap[b]? = some (.cells #[.int .i64 a.c, .int .i64 a.hi, .int .u64 a.lo, .int .i64 a.mn, .int .i64 a.mx] 32 (0, 0))
theorem AgBox.lt {w : World} {b : Nat} {a : Ag} (h : AgBox w b a) : b < w.heap.size := lt_of_block h.blk
theorem AgBox.cells {w : World} {b : Nat} {a : Ag} (h : AgBox w b a) : w.cell? ⟨b, 0, none⟩ = some (.int .i64 a.c) ∧ w.cell? ⟨b, 1, none⟩ = some (.int .i64 a.hi) ∧ w.cell? ⟨b, 2, none⟩ = some (.int .u64 a.lo) ∧ w.cell? ⟨b, 3, none⟩ = some (.int .i64 a.mn) ∧ w.cell? ⟨b, 4, none⟩ = some (.int .i64 a.mx) :=
  ⟨cell_of_row w b 0 _ _ _ h.blk, cell_of_row w b 1 _ _ _ h.blk, cell_of_row w b 2 _ _ _ h.blk, cell_of_row w b 3 _ _ _ h.blk, cell_of_row w b 4 _ _ _ h.blk⟩
theorem AgBox.free {w : World} {b : Nat} {a : Ag} (h : AgBox w b a) (j : Nat) : w.frozen? ⟨b, j, none⟩ = false := frozen_of_row w b j _ _ h.blk
theorem AgBox.below {w w' : World} {b : Nat} {a : Ag} (h : AgBox w b a) (hb : Below w.heap.size w w') : AgBox w' b a := ⟨(hb.block b h.lt).trans h.blk⟩
theorem AgBox.new (w : World) (a : Ag) : AgBox (w.alloc (.cells #[.int .i64 a.c, .int .i64 a.hi, .int .u64 a.lo, .int .i64 a.mn, .int .i64 a.mx] 32)) w.heap.size a := ⟨heap_alloc_new w _⟩
theorem AgBox.set {w : World} {b : Nat} {a : Ag} (h : AgBox w b a) (x : Ag) : AgBox (((((w.setCell ⟨b, 0, none⟩ (.int .i64 x.c)).setCell ⟨b, 1, none⟩ (.int .i64 x.hi)).setCell ⟨b, 2, none⟩ (.int .u64 x.lo)).setCell ⟨b, 3, none⟩ (.int .i64 x.mn)).setCell ⟨b, 4, none⟩ (.int .i64 x.mx)) b x := by
  have h0 := heap_setCell_same w b 0 _ _ (.int .i64 x.c) h.blk
  have h1 := heap_setCell_same _ b 1 _ _ (.int .i64 x.hi) h0
  have h2 := heap_setCell_same _ b 2 _ _ (.int .u64 x.lo) h1
  have h3 := heap_setCell_same _ b 3 _ _ (.int .i64 x.mn) h2
  have h4 := heap_setCell_same _ b 4 _ _ (.int .i64 x.mx) h3
  exact ⟨h4⟩
theorem AgBox.other {w : World} {b : Nat} {a : Ag} (h : AgBox w b a) {p : Addr} (hp : b ≠ p.block) (u : Value) : AgBox (w.setCell p u) b a := ⟨(heap_setCell_other w p b u hp).trans h.blk⟩
set_option maxRecDepth 100000 in
set_option maxHeartbeats 2000000 in
theorem merge_any (A : Option Addr) (n c : Nat) (l : List Ag) (w : World) (h : Ags w A n l) : Calls Try.prog 32 #[.slice A n c] w fun e w' => e = .returned (mergeL l).val ∧ Below w.heap.size w w' := by
  have hn := h.n_le
  have HL := Lib.hid h.len
  unfold maxLen at hn
  go_enter Try.func32, Try.ntmps32
  go_wp2
  have B0 : AgBox (w.alloc (.cells #[.int .i64 0, .int .i64 0, .int .u64 0, .int .i64 0, .int .i64 0] 32)) w.heap.size Ag.zero := AgBox.new w Ag.zero
  have B0' := B0.below ((Below.refl _ _).alloc (Nat.le_refl _) (.cells #[.int .i64 0, .int .i64 0, .int .u64 0, .int .i64 0, .int .i64 0] 32))
  have B1 : AgBox ((w.alloc (.cells #[.int .i64 0, .int .i64 0, .int .u64 0, .int .i64 0, .int .i64 0] 32)).alloc (.cells #[.int .i64 0, .int .i64 0, .int .u64 0, .int .i64 0, .int .i64 0] 32)) (w.heap.size + 1) Ag.zero := by
    have := AgBox.new (w.alloc (.cells #[.int .i64 0, .int .i64 0, .int .u64 0, .int .i64 0, .int .i64 0] 32)) Ag.zero
    rw [show (w.alloc (.cells #[.int .i64 0, .int .i64 0, .int .u64 0, .int .i64 0, .int .i64 0] 32)).heap.size = w.heap.size + 1 from by simp] at this
    exact this
  have hb0 : Below w.heap.size w ((w.alloc (.cells #[.int .i64 0, .int .i64 0, .int .u64 0, .int .i64 0, .int .i64 0] 32)).alloc (.cells #[.int .i64 0, .int .i64 0, .int .u64 0, .int .i64 0, .int .i64 0] 32)) := ((Below.refl _ _).alloc (Nat.le_refl _) _).alloc (by simp) _
  go_loopw [8] (fun i wr => ∃ j : Nat, j ≤ n ∧ i = .int .i64 j ∧ AgBox wr (w.heap.size + 1) (mergeL (l.take j)) ∧ AgBox wr w.heap.size Ag.zero ∧ Below w.heap.size w wr) (fun i _ => n - (intOf i).toNat)
  case atStart => exact ⟨0, Nat.zero_le _, rfl, B1, B0', hb0⟩
  case round =>
    clear B0 B0' B1 hb0
    obtain ⟨j, hj, rfl, S, Z, hbr⟩ := hrel
    have hS1 := S.lt
    have hZ1 := Z.lt
    obtain ⟨s0, s1, s2, s3, s4⟩ := S.cells
    have f0 := S.free 0
    have f1 := S.free 1
    have f2 := S.free 2
    have f3 := S.free 3
    have f4 := S.free 4
    by_cases hlt : j < n
    · have K : j < l.length := by rw [HL.out]; exact hlt
      obtain ⟨b, off, rfl, hb, c0, c1, c2, c3, c4⟩ := (h.below hbr).get K
      have HN := Lib.hid (show mergeL (l.take (j + 1)) = mergeStep (mergeL (l.take j)) l[j] from by rw [List.take_succ_eq_append_getElem K, mergeL_snoc])
      have HF := Lib.hid (Ag.Fit.merge (l := l.take j) (fun a ha => h.ok a (List.mem_of_mem_take ha)))
      have HO := Lib.hid (h.ok _ (List.getElem_mem K))
      generalize l[j]'K = x at *
      generalize mergeL (l.take j) = s at *
      cases hv : validG x
      · have HV := Lib.hid hv
        have HX := Lib.hid (show mergeStep s x = s from by unfold mergeStep; rw [hv]; simp)
        clear hv
        go_wp2_with (go_at_call 51; refine (validG_any x _).mono ?_; rw [HV.out]; rintro e w' ⟨rfl, rfl⟩)
        go_roundw
        case rel => exact ⟨j + 1, by omega, by go_num, by rw [HN.out, HX.out]; exact (S.below ((Below.refl _ wr).alloc (Nat.le_refl _) _)).below ((Below.refl _ _).alloc (Nat.le_refl _) _), (Z.below ((Below.refl _ wr).alloc (Nat.le_refl _) _)).below ((Below.refl _ _).alloc (Nat.le_refl _) _), (hbr.alloc hbr.size _).alloc (by have := hbr.size; simp; omega) _⟩
        case measure => simp [intOf]; omega
      · have HV := Lib.hid hv
        have HX := Lib.hid (show mergeStep s x = bothG s x from by unfold mergeStep; rw [hv]; simp)
        have HCX := Lib.hid (validG_cnt hv)
        clear hv
        go_wp2_with (first
          | (go_at_call 51; refine (validG_any x _).mono ?_; rw [HV.out]; rintro e w' ⟨rfl, rfl⟩)
          | (go_at_call 47; refine (both_any s x _ HF.out.ok HO.out HF.out.cnt (by have := HCX.out; omega)).mono ?_; rintro e w5 ⟨rfl, hb5⟩
             have S5 := ((S.below ((Below.refl _ wr).alloc (Nat.le_refl _) _)).below ((Below.refl _ _).alloc (Nat.le_refl _) _)).below hb5
             have Z5 := ((Z.below ((Below.refl _ wr).alloc (Nat.le_refl _) _)).below ((Below.refl _ _).alloc (Nat.le_refl _) _)).below hb5
             have hb05 := ((hbr.alloc hbr.size _).alloc (by have := hbr.size; simp; omega) _).trans (hb5.mono (by have := hbr.size; simp; omega))
             obtain ⟨s0, s1, s2, s3, s4⟩ := S5.cells
             have f0 := S5.free 0
             have f1 := S5.free 1
             have f2 := S5.free 2
             have f3 := S5.free 3
             have f4 := S5.free 4))
        go_roundw
        case rel => exact ⟨j + 1, by omega, by go_num, by rw [HN.out, HX.out]; exact S5.set (bothG s x), ((((Z5.other (by simp) _).other (by simp) _).other (by simp) _).other (by simp) _).other (by simp) _, ((((hb05.setCell (by simp) _).setCell (by simp) _).setCell (by simp) _).setCell (by simp) _).setCell (by simp) _⟩
        case measure => simp [intOf]; omega
    · have e1 := Lib.hid (show l.take j = l from List.take_of_length_le (by rw [HL.out]; omega))
      rw [e1.out] at S s0 s1 s2 s3 s4
      obtain ⟨z0, z1, z2, z3, z4⟩ := Z.cells
      have p0 := Z.free 0
      have p1 := Z.free 1
      have p2 := Z.free 2
      have p3 := Z.free 3
      have p4 := Z.free 4
      go_wp2
      have R := Z.set (mergeL l)
      have hfin : Below w.heap.size w (((((wr.setCell ⟨w.heap.size, 0, none⟩ (.int .i64 (mergeL l).c)).setCell ⟨w.heap.size, 1, none⟩ (.int .i64 (mergeL l).hi)).setCell ⟨w.heap.size, 2, none⟩ (.int .u64 (mergeL l).lo)).setCell ⟨w.heap.size, 3, none⟩ (.int .i64 (mergeL l).mn)).setCell ⟨w.heap.size, 4, none⟩ (.int .i64 (mergeL l).mx)) := ((((hbr.setCell (by simp) _).setCell (by simp) _).setCell (by simp) _).setCell (by simp) _).setCell (by simp) _
      generalize (((((wr.setCell ⟨w.heap.size, 0, none⟩ (.int .i64 (mergeL l).c)).setCell ⟨w.heap.size, 1, none⟩ (.int .i64 (mergeL l).hi)).setCell ⟨w.heap.size, 2, none⟩ (.int .u64 (mergeL l).lo)).setCell ⟨w.heap.size, 3, none⟩ (.int .i64 (mergeL l).mn)).setCell ⟨w.heap.size, 4, none⟩ (.int .i64 (mergeL l).mx)) = W at R hfin ⊢
      obtain ⟨r0, r1, r2, r3, r4⟩ := R.cells
      exact bodyPost_ret (v := (mergeL l).val) (by simp [results, Try.results32, go_sem, r0, r1, r2, r3, r4]) rfl ⟨rfl, hfin⟩
end Go.Proofs.Ytdlmipoeeiaapaa
