/-
  A policy's text, line by line: what is read. Plain laws on lists.
-/
import Derived.Test.YtnnamhomapagiaaGreatDoorPolR
import Derived.Test.YtnnamhomapagiaaGreatDoorWordFewA
namespace Go.Proofs.YtnnamhomapagiaaGreatDoor
open Go.RowKit

/-- The texts of a line's words. -/
def lineG (l : List UInt8) : List (List UInt8) := txts (lineWords 1 l)
/-- Two states that differ in the line's number alone. -/
structure SameSt (a b : LSt) : Prop where
  out : a.out.map (fun x => (x.text, x.col)) = b.out.map (fun x => (x.text, x.col))
  op : a.op = b.op
  i : a.i = b.i
theorem ext_same (c : UInt8) : ∀ (a b : List Wd), a.map (fun x => (x.text, x.col)) = b.map (fun x => (x.text, x.col)) → (extLast c a).map (fun x => (x.text, x.col)) = (extLast c b).map (fun x => (x.text, x.col))
  | [], [], _ => rfl
  | [], y :: r, h => by simp at h
  | x :: r, [], h => by simp at h
  | [x], [y], h => by simp at h; simp [extLast, h]
  | [x], y :: z :: r, h => by simp at h
  | x :: z :: r, [y], h => by simp at h
  | x :: z :: r, y :: u :: q, h => by
    show (x :: extLast c (z :: r)).map _ = (y :: extLast c (u :: q)).map _
    rw [List.map_cons, List.map_cons] at h ⊢
    injection h with h1 h2
    rw [h1, ext_same c (z :: r) (u :: q) h2]
theorem lst_same (n m : Int) (l : List UInt8) : SameSt (lst n l) (lst m l) := by
  obtain ⟨k, rfl⟩ : ∃ k : List UInt8, l = k.reverse := ⟨l.reverse, by simp⟩
  induction k with
  | nil => exact ⟨rfl, rfl, rfl⟩
  | cons c r ih =>
    rw [List.reverse_cons, lst_snoc, lst_snoc]
    obtain ⟨h1, h2, h3⟩ := ih
    unfold lstep
    by_cases hb : blankB c.toNat = true
    · rw [if_pos hb, if_pos hb]; exact ⟨h1, rfl, by simp only [h3]⟩
    · rw [if_neg hb, if_neg hb, h2]
      split
      · exact ⟨ext_same c _ _ h1, rfl, by simp only [h3]⟩
      · exact ⟨by simp only [List.map_append, h1, List.map_cons, List.map_nil, h3], rfl, by simp only [h3]⟩
theorem takeWhile_texts : ∀ (a b : List Wd), txts a = txts b → txts (a.takeWhile notRemark) = txts (b.takeWhile notRemark)
  | [], [], _ => rfl
  | [], y :: r, h => by simp [txts] at h
  | x :: r, [], h => by simp [txts] at h
  | x :: r, y :: q, h => by
    have h' : x.text :: txts r = y.text :: txts q := h
    injection h' with h1 h2
    have e : notRemark x = notRemark y := by unfold notRemark; rw [h1]
    rw [List.takeWhile_cons, List.takeWhile_cons, e]
    split
    · show x.text :: txts _ = y.text :: txts _
      rw [h1, takeWhile_texts r q h2]
    · rfl
theorem lineG_any (n : Int) (l : List UInt8) : txts (lineWords n l) = lineG l := by
  refine takeWhile_texts _ _ ?_
  have h := congrArg (List.map Prod.fst) (lst_same n 1 l).out
  rw [List.map_map, List.map_map] at h
  exact h
theorem lineWords_line (n : Int) (l : List UInt8) : ∀ x ∈ lineWords n l, x.line = n := fun x hx => (lst_full n l x ((List.takeWhile_sublist _).subset hx)).2
theorem cutW_line : ∀ (ls : List (List UInt8)) (n : Int), ∀ x ∈ cutW n ls, n ≤ x.line
  | [], _, x, h => by simp [cutW] at h
  | y :: r, n, x, h => by
    rcases List.mem_append.1 (show x ∈ lineWords n y ++ cutW (n + 1) r from h) with h | h
    · have := lineWords_line n y x h; omega
    · have := cutW_line r (n + 1) x h; omega
theorem takeWhile_split {p : Wd → Bool} : ∀ (a b : List Wd), (∀ x ∈ a, p x = true) → (∀ x ∈ b, p x = false) → (a ++ b).takeWhile p = a
  | [], [], _, _ => rfl
  | [], y :: r, _, h => by simp [h y (by simp)]
  | x :: r, b, h, k => by rw [List.cons_append, List.takeWhile_cons, if_pos (h x (by simp)), takeWhile_split r b (fun y hy => h y (by simp [hy])) k]
theorem lineHd_cut {n : Int} {l : List UInt8} {r : List (List UInt8)} (h : lineWords n l ≠ []) : lineHd (cutW n (l :: r)) = lineWords n l ∧ lineTl (cutW n (l :: r)) = cutW (n + 1) r ∧ lineAt (cutW n (l :: r)) = n := by
  have hl := lineWords_line n l
  have hr := cutW_line r (n + 1)
  have e : cutW n (l :: r) = lineWords n l ++ cutW (n + 1) r := rfl
  have h1 : lineHd (cutW n (l :: r)) = lineWords n l := by
    rw [e]
    obtain ⟨x, q, hx⟩ : ∃ x q, lineWords n l = x :: q := by
      cases hh : lineWords n l with
      | nil => exact absurd hh h
      | cons x q => exact ⟨x, q, rfl⟩
    have hxn := hl x (by rw [hx]; simp)
    rw [hx, List.cons_append]
    show (x :: (q ++ cutW (n + 1) r)).takeWhile (fun y => decide (y.line = x.line)) = _
    rw [← List.cons_append, ← hx]
    refine takeWhile_split _ _ (fun y hy => ?_) (fun y hy => ?_)
    · rw [hl y hy, hxn]; exact decide_eq_true rfl
    · have := hr y hy; exact decide_eq_false (by omega)
  refine ⟨h1, ?_, ?_⟩
  · unfold lineTl
    rw [h1, e, List.drop_left]
  · rw [e]
    cases hh : lineWords n l with
    | nil => exact absurd hh h
    | cons x q => exact hl x (by rw [hh]; simp)
theorem texts_nil {l : List Wd} : txts l = [] ↔ l = [] := by cases l <;> simp [txts]
/-- The tiers' lines, read line by line. -/
def tiersL (nm : List UInt8) : Int → List (List UInt8) → List Ti → Rd
  | _, [], acc => .good nm acc
  | n, l :: r, acc => if lineG l = [] then tiersL nm (n + 1) r acc else if tierOk (lineG l) acc.length = true then tiersL nm (n + 1) r (acc ++ [tierT (lineG l)]) else .bad 22 n
theorem tiersL_is (nm : List UInt8) : ∀ (ls : List (List UInt8)) (n : Int) (f : Nat) (acc : List Ti), (cutW n ls).length ≤ f → tiersR nm f (cutW n ls) acc = tiersL nm n ls acc
  | [], n, f, acc, _ => by
    cases f with
    | zero => rfl
    | succ f => show (if (cutW n []) = [] then _ else _) = _; rw [if_pos (show cutW n [] = [] from rfl)]; rfl
  | l :: r, n, f, acc, hf => by
    unfold tiersL
    by_cases h : lineWords n l = []
    · have e : cutW n (l :: r) = cutW (n + 1) r := by show lineWords n l ++ _ = _; rw [h]; rfl
      rw [if_pos (by rw [← lineG_any n]; exact texts_nil.2 h), e, tiersL_is nm r (n + 1) f acc (by rw [← e]; exact hf)]
    · obtain ⟨h1, h2, h3⟩ := lineHd_cut (r := r) h
      have hne : cutW n (l :: r) ≠ [] := fun e => h (List.append_eq_nil_iff.1 (show lineWords n l ++ cutW (n + 1) r = [] from e)).1
      have hlen : (cutW n (l :: r)).length = (lineWords n l).length + (cutW (n + 1) r).length := List.length_append
      have hpos : 0 < (lineWords n l).length := List.length_pos_iff.2 h
      rw [if_neg (fun e => h (texts_nil.1 (by rw [lineG_any n]; exact e)))]
      match f, hf with
      | 0, hf => omega
      | f + 1, hf =>
        show (if cutW n (l :: r) = [] then _ else _) = _
        rw [if_neg hne, h1, h2, h3, lineG_any]
        by_cases ht : tierOk (lineG l) acc.length = true
        · rw [if_pos ht, if_pos ht, tiersL_is nm r (n + 1) f _ (by omega)]
        · rw [if_neg ht, if_neg ht]
/-- A policy's text, read line by line. -/
def parseL : Int → List (List UInt8) → Rd
  | _, [] => .bad 22 1
  | n, l :: r => if lineG l = [] then parseL (n + 1) r else if headOk (lineG l) = true then tiersL (txt (lineG l) 1) (n + 1) r [] else .bad 22 n
theorem parseL_is : ∀ (ls : List (List UInt8)) (n : Int), parseW (cutW n ls) = parseL n ls
  | [], n => by
    show (if headOk (txts (lineHd [])) = true then _ else _) = _
    rw [if_neg (by decide)]; rfl
  | l :: r, n => by
    unfold parseL
    by_cases h : lineWords n l = []
    · have e : cutW n (l :: r) = cutW (n + 1) r := by show lineWords n l ++ _ = _; rw [h]; rfl
      rw [if_pos (by rw [← lineG_any n]; exact texts_nil.2 h), e, parseL_is r (n + 1)]
    · obtain ⟨h1, h2, h3⟩ := lineHd_cut (r := r) h
      have hlen : (cutW n (l :: r)).length = (lineWords n l).length + (cutW (n + 1) r).length := List.length_append
      rw [if_neg (fun e => h (texts_nil.1 (by rw [lineG_any n]; exact e)))]
      unfold parseW
      rw [h1, h2, h3, lineG_any, tiersL_is _ r (n + 1) _ _ (by omega)]
theorem parseT_is (s : ByteArray) : parseT s = if 4000 < s.size then .bad 2 0 else if cutE 1 (linesOf s.toList) ≠ 0 then .bad 22 (cutE 1 (linesOf s.toList)) else parseL 1 (linesOf s.toList) := by
  unfold parseT
  rw [parseL_is, linesL_is]

/-! ### A line of words with blanks between them -/
def lfold (n : Int) (s : LSt) (l : List UInt8) : LSt := l.foldl (lstep n) s
theorem lfold_append (n : Int) (s : LSt) (a b : List UInt8) : lfold n s (a ++ b) = lfold n (lfold n s a) b := by simp [lfold, List.foldl_append]
theorem lfold_blanks (n : Int) : ∀ (g : List UInt8) (o : List Wd) (p : Bool) (i : Nat), g ≠ [] → (∀ c ∈ g, blankB c.toNat = true) → lfold n ⟨o, p, i⟩ g = ⟨o, false, i + g.length⟩
  | [], _, _, _, h, _ => absurd rfl h
  | [c], o, p, i, _, h => by
    show lstep n ⟨o, p, i⟩ c = _
    unfold lstep; rw [if_pos (h c (by simp))]; rfl
  | c :: d :: r, o, p, i, _, h => by
    have e : lstep n ⟨o, p, i⟩ c = ⟨o, false, i + 1⟩ := by unfold lstep; rw [if_pos (h c (by simp))]
    show lfold n (lstep n ⟨o, p, i⟩ c) (d :: r) = _
    rw [e, lfold_blanks n (d :: r) o false (i + 1) (by simp) (fun x hx => h x (by simp [hx]))]
    simp; omega
theorem lfold_open (n : Int) : ∀ (w : List UInt8) (p : List Wd) (x : Wd) (i : Nat), (∀ c ∈ w, blankB c.toNat = false) → lfold n ⟨p ++ [x], true, i⟩ w = ⟨p ++ [⟨x.text ++ w, x.line, x.col⟩], true, i + w.length⟩
  | [], p, x, i, _ => by simp [lfold]
  | c :: r, p, x, i, h => by
    have e : lstep n ⟨p ++ [x], true, i⟩ c = ⟨p ++ [⟨x.text ++ [c], x.line, x.col⟩], true, i + 1⟩ := by
      unfold lstep; rw [if_neg (by rw [h c (by simp)]; decide), if_pos rfl, extLast_snoc]
    show lfold n (lstep n ⟨p ++ [x], true, i⟩ c) r = _
    rw [e, lfold_open n r p _ (i + 1) (fun y hy => h y (by simp [hy]))]
    simp; omega
theorem lfold_word (n : Int) (w : List UInt8) (o : List Wd) (i : Nat) (hne : w ≠ []) (h : ∀ c ∈ w, blankB c.toNat = false) : ∃ x : Wd, x.text = w ∧ lfold n ⟨o, false, i⟩ w = ⟨o ++ [x], true, i + w.length⟩ := by
  match w, hne with
  | c :: r, _ =>
    have e : lstep n ⟨o, false, i⟩ c = ⟨o ++ [⟨[c], n, (i : Int) + 1⟩], true, i + 1⟩ := by
      unfold lstep; rw [if_neg (by rw [h c (by simp)]; decide), if_neg (by simp)]
    refine ⟨⟨c :: r, n, (i : Int) + 1⟩, rfl, ?_⟩
    show lfold n (lstep n ⟨o, false, i⟩ c) r = _
    rw [e, lfold_open n r o _ (i + 1) (fun y hy => h y (by simp [hy]))]
    simp; omega
/-- A word: no blank in it. -/
structure PlainW (w : List UInt8) : Prop where
  ne : w ≠ []
  free : ∀ c ∈ w, blankB c.toNat = false
structure Gap (g : List UInt8) : Prop where
  ne : g ≠ []
  blank : ∀ c ∈ g, blankB c.toNat = true
def line2 (ps : List (List UInt8 × List UInt8)) : List UInt8 := ps.flatMap fun p => p.1 ++ p.2
theorem lfold_line (n : Int) : ∀ (ps : List (List UInt8 × List UInt8)) (o : List Wd) (i : Nat), (∀ p ∈ ps, PlainW p.1 ∧ Gap p.2) → ∃ ws i', lfold n ⟨o, false, i⟩ (line2 ps) = ⟨o ++ ws, false, i'⟩ ∧ txts ws = ps.map Prod.fst
  | [], o, i, _ => ⟨[], i, by simp [line2, lfold], rfl⟩
  | p :: r, o, i, h => by
    obtain ⟨hw, hg⟩ := h p (by simp)
    obtain ⟨x, hx, e1⟩ := lfold_word n p.1 o i hw.ne hw.free
    obtain ⟨ws, i', e2, ht⟩ := lfold_line n r (o ++ [x]) (i + p.1.length + p.2.length) (fun q hq => h q (by simp [hq]))
    refine ⟨x :: ws, i', ?_, by simp [txts] at ht ⊢; exact ⟨hx, ht⟩⟩
    show lfold n _ ((p.1 ++ p.2) ++ line2 r) = _
    rw [lfold_append, lfold_append, e1, lfold_blanks n p.2 _ _ _ hg.ne hg.blank, e2]; simp
def remG (g : List (List UInt8)) : List (List UInt8) := g.takeWhile fun t => t.head? != some 35
theorem txts_rem : ∀ l : List Wd, txts (l.takeWhile notRemark) = remG (txts l)
  | [] => rfl
  | x :: r => by
    show _ = List.takeWhile _ (x.text :: txts r)
    rw [List.takeWhile_cons, List.takeWhile_cons]
    show txts (if notRemark x = true then _ else _) = if notRemark x = true then _ else _
    split
    · show x.text :: txts _ = _; rw [txts_rem r]; rfl
    · rfl
theorem lineG_line (ps : List (List UInt8 × List UInt8)) (h : ∀ p ∈ ps, PlainW p.1 ∧ Gap p.2) (w : List UInt8) (hw : PlainW w) : lineG (line2 ps ++ w) = remG (ps.map Prod.fst ++ [w]) ∧ lineG (line2 ps) = remG (ps.map Prod.fst) := by
  obtain ⟨ws, i, e, ht⟩ := lfold_line 1 ps [] 0 h
  obtain ⟨x, hx, e2⟩ := lfold_word 1 w ws i hw.ne hw.free
  have e0 : lst 1 (line2 ps) = ⟨ws, false, i⟩ := by show lfold 1 ⟨[], false, 0⟩ _ = _; rw [e]; rfl
  have e1 : lst 1 (line2 ps ++ w) = ⟨ws ++ [x], true, i + w.length⟩ := by
    show lfold 1 ⟨[], false, 0⟩ _ = _
    rw [lfold_append, e]; exact e2
  constructor
  · show txts ((lst 1 (line2 ps ++ w)).out.takeWhile notRemark) = _
    rw [e1, txts_rem]
    show remG (txts (ws ++ [x])) = _
    congr 1
    simp [txts] at ht ⊢
    rw [ht, hx]; exact ⟨rfl, rfl⟩
  · show txts ((lst 1 (line2 ps)).out.takeWhile notRemark) = _
    rw [e0, txts_rem]
    show remG (txts ws) = _
    rw [ht]
end Go.Proofs.YtnnamhomapagiaaGreatDoor
