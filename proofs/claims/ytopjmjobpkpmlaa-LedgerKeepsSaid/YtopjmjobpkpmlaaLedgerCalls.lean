/-
  The package ledger: New, none, known, find, make, Left, Open.
-/
import Derived.Test.YtopjmjobpkpmlaaLedger
namespace Go.Proofs.Ytopjmjobpkpmlaa
open Go.RowKit Go.Maps

set_option maxHeartbeats 1000000 in
theorem none_any {B g m mm : Nat} {f n : Int} {us : List Int} {xs : List Acc} (w : World) (h : LedgerAt w B g m mm f n us xs) :
    Calls Try.prog 24 #[.pointer (some ⟨g, 0, none⟩)] w fun e w' => e = .returned (.bool false) ∧ w = w' := by
  have c3 := h.c3
  have hq := fun W => run_eql_map_nil (P := Try.prog) W _ _ _ (some mm) Try.underlying40
  go_enter Try.func24, Try.ntmps24
  go_wp2
  go_ret
  exact ⟨rfl, rfl⟩
set_option maxHeartbeats 1000000 in
theorem known_any (s : ByteArray) (w : World) (hs : s.size ≤ maxLen) :
    Calls Try.prog 23 #[.string s] w fun e w' => e = .returned (.bool (decide (1 ≤ s.size ∧ s.size ≤ 15))) ∧ w = w' := by
  unfold maxLen at hs
  by_cases h1 : 1 ≤ s.size
  · by_cases h2 : s.size ≤ 15
    · have HF := Lib.hid (decide_eq_true (show 1 ≤ s.size ∧ s.size ≤ 15 from ⟨h1, h2⟩))
      have hd : decide ((s.size : Int) ≤ 15) = true := by simp; omega
      go_enter Try.func23, Try.ntmps23
      go_wp2
      go_ret
      exact ⟨ret_bool HF.out.symm, rfl⟩
    · have HF := Lib.hid (decide_eq_false (show ¬ (1 ≤ s.size ∧ s.size ≤ 15) from fun h => h2 h.2))
      have hd : decide ((s.size : Int) ≤ 15) = false := by simp; omega
      go_enter Try.func23, Try.ntmps23
      go_wp2
      go_ret
      exact ⟨ret_bool HF.out.symm, rfl⟩
  · have HF := Lib.hid (decide_eq_false (show ¬ (1 ≤ s.size ∧ s.size ≤ 15) from fun h => h1 h.1))
    have hd : decide (1 ≤ (s.size : Int)) = false := by simp; omega
    go_enter Try.func23, Try.ntmps23
    go_wp2
    go_ret
    exact ⟨ret_bool HF.out.symm, rfl⟩
set_option maxHeartbeats 1000000 in
theorem find_any {B g m mm : Nat} {f n : Int} {us : List Int} {xs : List Acc} (s : ByteArray) (w : World) (h : LedgerAt w B g m mm f n us xs) (hs : s.size ≤ maxLen) :
    Calls Try.prog 26 #[.pointer (some ⟨g, 0, none⟩), .string s] w fun e w' => e = .returned (ptrOf (findA xs s.data.toList)) ∧ w = w' := by
  have c3 := h.c3
  have hlk := look_acc h.own s hs
  go_enter Try.func26, Try.ntmps26
  go_wp2_with (go_at_call 24; refine (none_any _ h).mono ?_; rintro e w1 ⟨rfl, rfl⟩)
  go_ret
  exact ⟨rfl, rfl⟩

def leftOf (o : Option Acc) : Int := match o with | some a => a.left | none => 0
set_option maxHeartbeats 1000000 in
theorem left_any {B g m mm : Nat} {f n : Int} {us : List Int} {xs : List Acc} (s : ByteArray) (w : World) (h : LedgerAt w B g m mm f n us xs) (hs : s.size ≤ maxLen) :
    Calls Try.prog 12 #[.pointer (some ⟨g, 0, none⟩), .string s] w fun e w' => e = .returned (.int .i64 (leftOf (findA xs s.data.toList))) ∧ w = w' := by
  cases hf : findA xs s.data.toList with
  | none =>
    have HF := Lib.hid (show ptrOf (findA xs s.data.toList) = .pointer none from by rw [hf]; rfl)
    go_enter Try.func12, Try.ntmps12
    go_wp2_with (go_at_call 26; refine (find_any s _ h hs).mono ?_; rw [HF.out]; rintro e w1 ⟨rfl, rfl⟩)
    go_ret
    exact ⟨ret_int rfl, rfl⟩
  | some a =>
    have HF := Lib.hid (show ptrOf (findA xs s.data.toList) = .pointer (some ⟨a.ab, 0, none⟩) from by rw [hf]; rfl)
    obtain ⟨c0, c1, c2⟩ := (h.acc a (findA_some hf).1).cells
    go_enter Try.func12, Try.ntmps12
    go_wp2_with (go_at_call 26; refine (find_any s _ h hs).mono ?_; rw [HF.out]; rintro e w1 ⟨rfl, rfl⟩)
    go_ret
    exact ⟨ret_int rfl, rfl⟩
/-- What may still be reserved. -/
def openOf (n : Int) (us : List Int) (xs : List Acc) : Int := n - us.length - sumL xs
theorem same_str (a b : List UInt8) : (Lit.string a).sameKey (.string b) = decide (a = b) := by rw [Bool.eq_iff_iff]; simp [Lit.sameKey]
theorem open_step {xs : List Acc} (hp : xs.Pairwise (fun x y => x.name ≠ y.name)) {a : Acc} (ha : a ∈ xs) (left : Lit → Bool) (hl : left (.string a.name) = true) :
    sumL (xs.filter fun x => !(left (.string x.name) && !(Lit.string x.name).sameKey (.string a.name))) = sumL (xs.filter fun x => !left (.string x.name)) + a.left := by
  rw [← sumL_filter a hp ha (fun x => !left (.string x.name)) (by simp [hl])]
  congr 1
  apply List.filter_congr
  intro x _
  rw [same_str]
  cases left (.string x.name) <;> simp
def mkPtr (o : Option Nat) : Value := .pointer (o.map fun b => ⟨b, 0, none⟩)
theorem inv_str (key : Value) (kl : Lit) (h : keyOf Try.prog 9 key = some kl) : ∃ x : ByteArray, key = Value.string x := by
  obtain ⟨s, e, _⟩ := WideMaps.string_of_keyOf Try.underlying9 h
  exact ⟨s, e⟩
theorem inv_ptr (v : Value) (y : DataW Unit × List MemPlace) (h : ptrElem v = some y) : ∃ c, v = mkPtr c := by
  rcases ptrElem_inv h with ⟨rfl, _⟩ | ⟨b, rfl, _⟩
  · exact ⟨none, rfl⟩
  · exact ⟨some b, rfl⟩
theorem next_acc {xs : List Acc} {x : ByteArray} {kl : Lit} {c : Option Nat} {y : DataW Unit × List MemPlace} (hkey : keyOf Try.prog 9 (.string x) = some kl) (hv : ptrElem (mkPtr c) = some y) (hat : ∀ zd, (accD xs).atKey kl zd = y.1) :
    ∃ a ∈ xs, kl = .string a.name ∧ c = some a.ab := by
  obtain ⟨s, e, rfl, _⟩ := WideMaps.string_of_keyOf Try.underlying9 hkey
  cases hf : findA xs s.data.toList with
  | none =>
    have h1 := hat .nil
    have h2 := hat (.lit (.bool true))
    rw [at_accD, hf] at h1 h2
    rw [← h1] at h2
    exact absurd h2 (fun h => nomatch h)
  | some a =>
    have h1 := hat .nil
    rw [at_accD, hf] at h1
    obtain ⟨ha, hn⟩ := findA_some hf
    refine ⟨a, ha, by rw [hn], ?_⟩
    rcases ptrElem_inv hv with ⟨_, e2⟩ | ⟨b, e1, e2⟩
    · rw [e2] at h1; exact absurd h1 (fun h => nomatch h)
    · rw [e2] at h1
      have e3 := (Lit.int.inj (DataW.lit.inj h1)).2
      have e4 : a.ab = b := by omega
      unfold mkPtr at e1
      cases c with
      | none => cases e1
      | some d =>
        have e5 := Value.pointer.inj e1
        simp at e5
        rw [e4, e5]
theorem filter_start (xs : List Acc) : sumL (xs.filter fun x => !Maps.has (accD xs) (.string x.name)) = 0 := by
  have e : (xs.filter fun x => !Maps.has (accD xs) (.string x.name)) = [] := by
    rw [List.filter_eq_nil_iff]
    intro a ha
    rw [has_accD]
    simp
    exact ⟨a, ha, rfl⟩
  rw [e]; rfl
theorem filter_end {xs : List Acc} {left : Lit → Bool} (h : ∀ kl, left kl = false) : sumL (xs.filter fun x => !left (.string x.name)) = sumL xs := by
  congr 1
  rw [List.filter_eq_self]
  intro a _
  simp [h]
set_option maxRecDepth 100000 in
set_option maxHeartbeats 2000000 in
theorem open_any {B g m mm : Nat} {f n : Int} {us : List Int} {xs : List Acc} (w : World) (h : LedgerAt w B g m mm f n us xs) :
    Calls Try.prog 14 #[.pointer (some ⟨g, 0, none⟩)] w fun e w' => e = .returned (.int .i64 (openOf n us xs)) ∧ Below w.heap.size w w' := by
  have HP := Lib.hid h.apart
  obtain ⟨b1, b2, b3, b4⟩ := h.few
  go_enter Try.func14, Try.ntmps14
  go_wp2_with (first
    | (go_at_call 24; refine (none_any _ h).mono ?_; rintro e w1 ⟨rfl, rfl⟩)
    | (go_at_call 17; refine (free_any g m f n us w h.pool).mono ?_; rintro e w1 ⟨rfl, hb1⟩
       have h1 := h.bel hb1
       have c3 := h1.c3
       have hown := h1.own)
    | (at_range; refine wpList_range_own _ rfl _ 40 rfl 9 58 str_law Try.underlying40 ptrElem mm _ (accD xs) rfl hown ?_; intro w2 hrg2 hg2 hs2))
  go_frame
  have hbw2 : Below w.heap.size w w2 := hb1.grown hg2 hb1.size (fun j hj => by cases hj)
  obtain ⟨r, hr⟩ : ∃ r, r = w1.heap.size := ⟨_, rfl⟩
  rw [← hr] at hrg2
  rw [← hr]
  have hrw : w.heap.size ≤ r := by rw [hr]; exact hb1.size
  clear hr hown h1 c3 hg2 hs2
  go_loopw [3] (fun v wr => ∃ left cnt, wr.ranges Try.prog 9 ptrElem mm r xs.length (accD xs) left cnt ∧ v = .int .i64 (n - us.length - sumL (xs.filter fun x => !left (.string x.name))) ∧ Below w.heap.size w wr) (fun _ wr => wr.rangeLeft mm r)
  case atStart => exact ⟨_, _, hrg2, by rw [filter_start]; simp, hbw2⟩
  case round =>
    clear hrg2 hbw2
    obtain ⟨left, cnt, hrg, rfl, hbr⟩ := hrel
    have hsb := sumL_filter_le h.pos (fun x => !left (.string x.name))
    obtain ⟨hs1, hs2⟩ := hsb
    go_wp2_with (at_next; refine wpList_next_ranges _ rfl _ rfl 9 str_law ptrElem Value.string mkPtr inv_str inv_ptr mm r _ _ _ _ rfl hrg ?_ ?_)
    · intro hc0 hl0
      have HE := Lib.hid (filter_end (xs := xs) hl0)
      go_wp2
      go_ret
      exact ⟨ret_int (by rw [HE.out]; rfl), hbr⟩
    · intro x c kl d ps w3 cnt3 hkey hlk hv hat hrg3 hlt hg3 hsz3 hen
      obtain ⟨a, ha, rfl, rfl⟩ := next_acc hkey hv hat
      have HS := Lib.hid (open_step HP.out ha left hlk)
      have hbr3 := hbr.grown hg3 hbr.size (fun j hj => by cases hj; exact hrw)
      obtain ⟨d0, d1, d2⟩ := ((h.bel hbr3).acc a ha).cells
      have hab := h.left_bd ha
      obtain ⟨hab1, hab2⟩ := hab
      have hL := Lib.hid (show wr.rangeLeft mm r = cnt from hrg.left_eq)
      have hL3 := Lib.hid (show w3.rangeLeft mm r = cnt3 from hrg3.left_eq)
      clear hlk hv hat
      unfold mkPtr at hen ⊢
      simp only [Option.map_some] at hen ⊢
      go_wp2
      go_roundw
      case rel => exact ⟨_, _, hrg3, by rw [HS.out]; go_num, hbr3⟩
      case measure => rw [hL.out, hL3.out]; omega
end Go.Proofs.Ytopjmjobpkpmlaa
