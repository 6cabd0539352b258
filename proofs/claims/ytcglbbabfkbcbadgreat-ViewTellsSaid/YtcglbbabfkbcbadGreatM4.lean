/-
  Several texts in one: TableV, RightV, RecsV, NameV.
-/
import Derived.Test.YtcglbbabfkbcbadGreatTabV
import Derived.Maps.OwnSet
import Derived.Maps.RangeWalk
import Derived.Laws.IdiomRangeMap
import Derived.Deep.LoopGhost
import Derived.Deep.RegionHeld3
import Derived.Test.YtcglbbabfkbcbadGreatM1
import Derived.Maps.OwnOps
import Derived.Test.YtcglbbabfkbcbadGreatRows
import Derived.Test.YtcglbbabfkbcbadGreatM3
import Derived.WalkKit
import Derived.WalkSpells
import Derived.WalkLawsBesides
import Derived.Lib.Hide
import Derived.Outline
import Derived.BigQuiet
import Derived.Deep.QuietTactic
/- Small words on maps and worlds. -/
namespace Go.Proofs.YtcglbbabfkbcbadGreat
open Go.RowKit Go.Maps

theorem ownsMap_tight {H : Type} {P : Program} {k : TypeId} {R : Value → Option (DataW H × List MemPlace)} {w : World} {b n : Nat} {D : DataW H} (h : w.ownsMap P k R b n D) : w.ownsMap P k R b (Maps.size D) D := by
  obtain ⟨es, clock, h1, h2, h3, h4⟩ := h
  refine ⟨es, clock, h1, h2, ?_, h4⟩
  rw [h4, Maps.size_eq, length_sorted]; simp
theorem grown_of_below {a b : World} (h : Below a.heap.size a b) (row : Option Nat) : a.grownBy b row := ⟨h.os, h.tape, h.output, h.size, fun i hi _ => h.block i hi⟩
section
variable {w w' : World} {g mm : Nat} {ev : Int} {l : List Rc}
end
end Go.Proofs.YtcglbbabfkbcbadGreat
/- Which records may stand in a table. -/
namespace Go.Proofs.YtcglbbabfkbcbadGreat
open Go.RowKit Go.Maps

def onB (t e : Int) : Bool := decide (1 ≤ e ∧ t.tmod e = 0)
def rightR (ev : Int) (r : Rc) : Bool := validB r.nm.toList && decide (0 ≤ r.st) && onB r.st ev && validG r.ag
end Go.Proofs.YtcglbbabfkbcbadGreat
/- Slices of records; what Add makes of a table's records. -/
namespace Go.Proofs.YtcglbbabfkbcbadGreat
open Go.RowKit Go.Maps

/-- A slice of records. -/
structure Rcs (w : World) (A : Option Addr) (n : Nat) (l : List Rc) : Prop where
  sl : Sl w A (l.flatMap Rc.cells)
  len : l.length = n
  n_le : n ≤ maxLen
  nm : ∀ r ∈ l, r.nm.size ≤ maxLen
  st : ∀ r ∈ l, (Lit.int .i64 r.st).wf = true
  ok : ∀ r ∈ l, r.ag.Ok
theorem flatR_get (l : List Rc) (j : Nat) (hj : j < l.length) (q : Nat) (hq : q < 7) : (l.flatMap Rc.cells)[j * 7 + q]? = l[j].cells[q]? := by
  induction l generalizing j with
  | nil => simp at hj
  | cons a r ih =>
    rw [List.flatMap_cons]
    cases j with
    | zero =>
      rw [List.getElem?_append_left (by show 0 * 7 + q < 7; omega)]; simp
    | succ j =>
      rw [List.getElem?_append_right (by show 7 ≤ _; omega)]
      have : (j + 1) * 7 + q - a.cells.length = j * 7 + q := by show (j + 1) * 7 + q - 7 = _; omega
      rw [this, ih j (by simp at hj; omega)]; rfl
structure RcCells (w : World) (b off : Nat) (r : Rc) : Prop where
  c0 : w.cell? ⟨b, off, none⟩ = some (.string r.nm)
  c1 : w.cell? ⟨b, off + 1, none⟩ = some (.int .i64 r.st)
  c2 : w.cell? ⟨b, off + 2, none⟩ = some (.int .i64 r.ag.c)
  c3 : w.cell? ⟨b, off + 3, none⟩ = some (.int .i64 r.ag.hi)
  c4 : w.cell? ⟨b, off + 4, none⟩ = some (.int .u64 r.ag.lo)
  c5 : w.cell? ⟨b, off + 5, none⟩ = some (.int .i64 r.ag.mn)
  c6 : w.cell? ⟨b, off + 6, none⟩ = some (.int .i64 r.ag.mx)
theorem Rcs.get {w : World} {A : Option Addr} {n : Nat} {l : List Rc} (h : Rcs w A n l) {j : Nat} (hj : j < l.length) : ∃ b off, A = some ⟨b, off, none⟩ ∧ b < w.heap.size ∧ RcCells w b (off + j * 7) l[j] := by
  have hne : l.flatMap Rc.cells ≠ [] := by
    cases l with
    | nil => simp at hj
    | cons a r => simp [Rc.cells]
  obtain ⟨b, off, e, hb, hc⟩ := h.sl.at_ hne
  have g := fun q hq => flatR_get l j hj q hq
  have c0 := hc (j * 7 + 0) _ (g 0 (by omega))
  have c1 := hc (j * 7 + 1) _ (g 1 (by omega))
  have c2 := hc (j * 7 + 2) _ (g 2 (by omega))
  have c3 := hc (j * 7 + 3) _ (g 3 (by omega))
  have c4 := hc (j * 7 + 4) _ (g 4 (by omega))
  have c5 := hc (j * 7 + 5) _ (g 5 (by omega))
  have c6 := hc (j * 7 + 6) _ (g 6 (by omega))
  rw [← Nat.add_assoc] at c1 c2 c3 c4 c5 c6
  exact ⟨b, off, e, hb, c0, c1, c2, c3, c4, c5, c6⟩
theorem RcCells.keep {w w' : World} {b off : Nat} {r : Rc} {row : Option Nat} (h : RcCells w b off r) (hg : w.grownBy w' row) (hne : some b ≠ row) : RcCells w' b off r :=
  ⟨hg.cell h.c0 hne, hg.cell h.c1 hne, hg.cell h.c2 hne, hg.cell h.c3 hne, hg.cell h.c4 hne, hg.cell h.c5 hne, hg.cell h.c6 hne⟩
theorem RcCells.new (w : World) (r : Rc) : RcCells (w.alloc (.cells #[.string r.nm, .int .i64 r.st, .int .i64 r.ag.c, .int .i64 r.ag.hi, .int .u64 r.ag.lo, .int .i64 r.ag.mn, .int .i64 r.ag.mx] 61)) w.heap.size 0 r := by
  have e := heap_alloc_new w (.cells #[.string r.nm, .int .i64 r.st, .int .i64 r.ag.c, .int .i64 r.ag.hi, .int .u64 r.ag.lo, .int .i64 r.ag.mn, .int .i64 r.ag.mx] 61)
  exact ⟨cell_of_row _ _ 0 _ _ _ e, cell_of_row _ _ 1 _ _ _ e, cell_of_row _ _ 2 _ _ _ e, cell_of_row _ _ 3 _ _ _ e, cell_of_row _ _ 4 _ _ _ e, cell_of_row _ _ 5 _ _ _ e, cell_of_row _ _ 6 _ _ _ e⟩
/-- What stands at a place, or nought. -/
def agAt (l : List Rc) (s : ByteArray) (n : Int) : Ag := match findR l s n with | some r => r.ag | none => Ag.zero
open Classical in
/-- What Add makes of a table's records. -/
noncomputable def addR (ev : Int) (l : List Rc) (r : Rc) : List Rc := if rightR ev r = true then putR ⟨r.nm, r.st, mergeL [agAt l r.nm r.st, r.ag]⟩ l else l
noncomputable def addL (ev : Int) (l : List Rc) (rs : List Rc) : List Rc := rs.foldl (addR ev) l
def addN (ev : Int) (rs : List Rc) : Nat := rs.countP (rightR ev)
theorem addL_snoc (ev : Int) (l rs : List Rc) (r : Rc) : addL ev l (rs ++ [r]) = addR ev (addL ev l rs) r := by simp [addL, List.foldl_append]
theorem addN_snoc (ev : Int) (rs : List Rc) (r : Rc) : addN ev (rs ++ [r]) = addN ev rs + if rightR ev r = true then 1 else 0 := by
  unfold addN
  rw [List.countP_append, List.countP_singleton]
theorem putR_len {x : Rc} : ∀ {l : List Rc}, (putR x l).length ≤ l.length + 1
  | [] => by simp [putR]
  | y :: r => by
    unfold putR
    split
    · simp
    · split
      · simp
      · have := putR_len (x := x) (l := r)
        simp; omega
theorem addR_len {ev : Int} {l : List Rc} {r : Rc} : (addR ev l r).length ≤ l.length + 1 := by
  unfold addR
  split
  · exact putR_len
  · omega
theorem addL_len {ev : Int} {l : List Rc} : ∀ {rs : List Rc}, (addL ev l rs).length ≤ l.length + rs.length := by
  intro rs
  obtain ⟨m, rfl⟩ : ∃ m : List Rc, rs = m.reverse := ⟨rs.reverse, by simp⟩
  induction m with
  | nil => simp [addL]
  | cons a r ih =>
    rw [List.reverse_cons, addL_snoc]
    have := addR_len (ev := ev) (l := addL ev l r.reverse) (r := a)
    simp at ih ⊢; omega
end Go.Proofs.YtcglbbabfkbcbadGreat
/- The walks over the package name: what each of its functions answers. -/
namespace Go.Proofs.YtcglbbabfkbcbadGreat
open Go.RowKit

set_option maxHeartbeats 400000 in
theorem letter_any (c : Int) (w : World) (h0 : 0 ≤ c) (h1 : c ≤ 255) :
    Calls Tryz.prog 87 #[.int .u8 c] w fun e w' => e = .returned (.bool (letterB c)) ∧ w = w' := by
  by_cases a : 97 ≤ c <;> by_cases b : c ≤ 122 <;> by_cases d : 48 ≤ c <;> by_cases f : c ≤ 57 <;> by_cases g : c = 46 <;> by_cases i : c = 95 <;> by_cases j : c = 45 <;> try omega
  all_goals
    go_enter Tryz.func87, Tryz.ntmps87
    go_wp2
    go_ret
    first
      | exact ⟨by rw [letter_yes (by omega)]; rfl, rfl⟩
      | exact ⟨ret_bool (by rw [letter_no (by omega)]; simp; omega), rfl⟩

set_option maxHeartbeats 400000 in
theorem isNaN_s (a : ByteArray) (w : World) :
    Calls Tryz.prog 118 #[.string a] w fun e w' => e = .returned (.bool false) ∧ w = w' := by
  go_enter Tryz.func118, Tryz.ntmps118
  go_wp2
  go_ret
  exact ⟨by simp, rfl⟩
set_option maxHeartbeats 400000 in
theorem isNaN_i (a : Int) (w : World) :
    Calls Tryz.prog 119 #[.int .i64 a] w fun e w' => e = .returned (.bool false) ∧ w = w' := by
  go_enter Tryz.func119, Tryz.ntmps119
  go_wp2
  go_ret
  exact ⟨by simp, rfl⟩
set_option maxHeartbeats 400000 in
theorem cmpS_any (a b : ByteArray) (w : World) :
    Calls Tryz.prog 80 #[.string a, .string b] w fun e w' => e = .returned (.int .i64 (cmpS a.toList b.toList)) ∧ w = w' := by
  go_enter Tryz.func80, Tryz.ntmps80
  go_wp2_with (go_at_call 118; refine (isNaN_s _ _).mono ?_; rintro e w' ⟨rfl, rfl⟩)
  all_goals
    go_ret
    exact ⟨ret_int (by simp [cmpS, *]), rfl⟩
set_option maxHeartbeats 400000 in
theorem cmpI_any (a b : Int) (w : World) :
    Calls Tryz.prog 81 #[.int .i64 a, .int .i64 b] w fun e w' => e = .returned (.int .i64 (cmpI a b)) ∧ w = w' := by
  go_enter Tryz.func81, Tryz.ntmps81
  go_wp2_with (go_at_call 119; refine (isNaN_i _ _).mono ?_; rintro e w' ⟨rfl, rfl⟩)
  all_goals
    go_ret
    exact ⟨ret_int (by unfold cmpI; first | rw [if_pos (by assumption)] | rw [if_neg (by omega), if_pos (by assumption)] | rw [if_neg (by omega), if_neg (by omega)]), rfl⟩

/-- cmp.Or of two numbers. -/
def orI (a b : Int) : Int := if a = 0 then b else a
set_option maxHeartbeats 400000 in
theorem or_any (a b : Int) (g : Nat) (w : World) (h0 : w.cell? ⟨g, 0, none⟩ = some (.int .i64 a)) (h1 : w.cell? ⟨g, 1, none⟩ = some (.int .i64 b)) :
    Calls Tryz.prog 79 #[.slice (some ⟨g, 0, none⟩) 2 2] w fun e w' => e = .returned (.int .i64 (orI a b)) ∧ w = w' := by
  go_enter Tryz.func79, Tryz.ntmps79
  go_wp2
  refine wp_loop_rounds 3 ?_
  rw [rounds_succ]
  go_wp2
  all_goals try (rw [rounds_succ]; go_wp2)
  all_goals try (rw [rounds_succ]; go_wp2)
  all_goals
    go_ret
    exact ⟨ret_int (by simp [orI]; simp_all), rfl⟩

set_option maxHeartbeats 1000000 in
theorem compare_any (a b : ByteArray) (x y : Int) (r s t u v r' s' t' u' v' : Value) (w : World) :
    Calls Tryz.prog 28 #[.agg #[.string a, .int .i64 x, r, s, t, u, v], .agg #[.string b, .int .i64 y, r', s', t', u', v']] w fun e w' => e = .returned (.int .i64 (cmpR a.toList x b.toList y)) ∧ Below w.heap.size w w' := by
  go_enter Tryz.func28, Tryz.ntmps28
  go_wp2
  go_region_held3 (fun w' => w'.cell? ⟨w.heap.size, 0, none⟩ = some (.string a) ∧ w'.cell? ⟨w.heap.size, 1, none⟩ = some (.int .i64 x) ∧ w'.cell? ⟨w.heap.size + 1, 0, none⟩ = some (.string b) ∧ w'.cell? ⟨w.heap.size + 1, 1, none⟩ = some (.int .i64 y))
    (first | assumption | (simp [go_sem, World.cell?_alloc_past]))
    (first
      | (go_at_call 80; refine (cmpS_any _ _ _).mono ?_; rintro e w' ⟨rfl, rfl⟩)
      | (go_at_call 81; refine (cmpI_any _ _ _).mono ?_; rintro e w' ⟨rfl, rfl⟩)
      | (go_at_call 79; refine (or_any (cmpS a.toList b.toList) (cmpI x y) _ _ (by simp [go_sem]) (by simp [go_sem])).mono ?_; rintro e w' ⟨rfl, rfl⟩))
  go_wp2
  go_ret
  exact ⟨rfl, by repeat (first | exact Below.refl _ _ | refine Below.drew ?_ | refine Below.alloc ?_ (by simp; try omega) _)⟩

set_option maxHeartbeats 1000000 in
theorem valid_any (A : Option Addr) (n c : Nat) (ss : List ByteArray) (w : World) (hn : n ≤ maxLen) (hl : ss.length = n) (hs : ∀ s ∈ ss, s.size ≤ maxLen)
    (hr : 0 < n → ∃ b off, A = some ⟨b, off, none⟩ ∧ ∀ i (h : i < ss.length), w.cell? ⟨b, off + i, none⟩ = some (.string ss[i])) :
    Calls Tryz.prog 35 #[.slice A n c] w fun e w' => e = .returned (.bool (ss.all fun s => validB s.toList)) ∧ w = w' := by
  unfold maxLen at hn hs
  go_enter Tryz.func35, Tryz.ntmps35
  go_wp2
  go_loop [8] (fun i => ∃ k : Nat, k ≤ n ∧ i = .int .i64 k ∧ ((ss.take k).all fun s => validB s.toList) = true) (fun i => n - (intOf i).toNat)
  case atStart => exact ⟨0, Nat.zero_le _, rfl, rfl⟩
  case round =>
    obtain ⟨k, hk, rfl, hall⟩ := hrel
    have HA := Lib.hid hall
    clear hall
    by_cases hlt : k < n
    · obtain ⟨b, off, rfl, hc⟩ := hr (by omega)
      have hcell := hc k (by omega)
      have hsz := hs ss[k] (List.getElem_mem _)
      have hts : Hid (ss.take (k + 1) = ss.take k ++ [ss[k]]) := List.take_succ_eq_append_getElem (by omega)
      clear hc hs
      have hmem : ss[k] ∈ ss := List.getElem_mem _
      generalize ss[k]'(by omega) = s at *
      by_cases h1 : s.size < 1
      · have hf := all_not (fun s : ByteArray => validB s.toList) ss s hmem (valid_short s (.inl h1))
        have HF := Lib.hid hf
        clear hf
        go_wp2
        go_ret
        exact ⟨ret_bool HF.out.symm, rfl⟩
      · by_cases h2 : 15 < s.size
        · have hf := all_not (fun s : ByteArray => validB s.toList) ss s hmem (valid_short s (.inr h2))
          have HF := Lib.hid hf
          clear hf
          go_wp2
          go_ret
          exact ⟨ret_bool HF.out.symm, rfl⟩
        · go_wp2
          go_loop [22] (fun i => ∃ j : Nat, j ≤ s.size ∧ i = .int .i64 j ∧ lettersB (s.toList.take j) = true) (fun i => s.size - (intOf i).toNat)
          case atStart => exact ⟨0, Nat.zero_le _, rfl, rfl⟩
          case round =>
            obtain ⟨j, hj, rfl, hpre⟩ := hrel
            have HP := Lib.hid hpre
            clear hpre
            by_cases hjs : j < s.size
            · have hnext := Lib.hid (letters_next s j hjs)
              have hu : s[j].toNat ≤ 255 := by have := s[j].toNat_lt; omega
              cases hb : letterB s[j].toNat
              · have HF := Lib.hid (all_not (fun s : ByteArray => validB s.toList) ss s hmem (valid_not s (letters_not s j hjs hb)))
                go_wp2_with (go_at_call 87; refine (letter_any _ _ (by omega) (by omega)).mono ?_; rintro e w' ⟨rfl, rfl⟩)
                go_ret
                exact ⟨ret_bool HF.out.symm, rfl⟩
              · have HN : Hid (lettersB (s.toList.take (j + 1)) = true) := by rw [hnext.out, HP.out, hb]; rfl
                go_wp2_with (go_at_call 87; refine (letter_any _ _ (by omega) (by omega)).mono ?_; rintro e w' ⟨rfl, rfl⟩)
                go_round
                case rel => exact ⟨j + 1, by omega, by go_num, HN.out⟩
                case measure => simp [intOf]; omega
            · have HV : Hid (validB s.toList = true) := valid_is s (by omega) (by omega) (by rw [← HP.out, List.take_of_length_le (by rw [len_toList]; omega)])
              go_wp2
              go_round
              case rel => exact ⟨k + 1, by omega, by go_num, all_next (fun s : ByteArray => validB s.toList) ss k s hts.out HA.out HV.out⟩
              case measure => simp [intOf]; omega
    · go_wp2
      go_ret
      exact ⟨ret_bool (by rw [← HA.out, List.take_of_length_le (by omega)]), rfl⟩
end Go.Proofs.YtcglbbabfkbcbadGreat
