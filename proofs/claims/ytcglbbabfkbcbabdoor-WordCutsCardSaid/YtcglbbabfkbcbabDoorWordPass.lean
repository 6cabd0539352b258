/-
  The words of a text in one pass: the document's own way; it gives what the lines give. No program in sight.
-/
import Derived.Test.YtcglbbabfkbcbabDoorWordLines
namespace Go.Proofs.YtcglbbabfkbcbabDoor
open Go.RowKit

/-- One pass: the words so far, the line, the column, the open word's bytes, is one in a remark. -/
structure RSt where
  out : List Wd
  line : Int
  col : Int
  cur : List UInt8
  rem : Bool
def rword (s : RSt) : List Wd := if s.cur = [] then [] else [⟨s.cur, s.line, s.col - (s.cur.length : Nat)⟩]
def rstep (s : RSt) (c : UInt8) : RSt :=
  if c = 10 then ⟨s.out ++ rword s, s.line + 1, 1, [], false⟩
  else if blankB c.toNat = true then ⟨s.out ++ rword s, s.line, s.col + 1, [], s.rem⟩
  else if s.cur = [] ∧ s.rem = false then (if c = 35 then ⟨s.out, s.line, s.col + 1, [], true⟩ else ⟨s.out, s.line, s.col + 1, [c], false⟩)
  else if s.cur = [] then ⟨s.out, s.line, s.col + 1, [], s.rem⟩
  else ⟨s.out, s.line, s.col + 1, s.cur ++ [c], s.rem⟩
def rfold (s : RSt) (l : List UInt8) : RSt := l.foldl rstep s
theorem rfold_append (s : RSt) (a b : List UInt8) : rfold s (a ++ b) = rfold (rfold s a) b := by simp [rfold, List.foldl_append]
/-- Behind some bytes of a line. -/
structure RInv (out0 : List Wd) (n : Int) (p : List UInt8) (r : RSt) : Prop where
  line : r.line = n
  col : r.col = (p.length : Int) + 1
  out : r.out ++ rword r = out0 ++ (lst n p).out.takeWhile notRemark
  rem : r.rem = !((lst n p).out.all notRemark)
  shut : (lst n p).op = false → r.cur = []
  rshut : r.rem = true → r.cur = []
  opn : (lst n p).op = true → r.rem = false → ∃ (q : List Wd) (x : Wd), (lst n p).out = q ++ [x] ∧ x.text = r.cur ∧ r.cur ≠ [] ∧ r.out = out0 ++ q ∧ q.all notRemark = true ∧ x.line = n ∧ x.col = r.col - (r.cur.length : Nat)
theorem takeWhile_append_all {p : Wd → Bool} : ∀ {a : List Wd} (b : List Wd), a.all p = true → (a ++ b).takeWhile p = a ++ b.takeWhile p
  | [], _, _ => rfl
  | x :: r, b, h => by
    simp only [List.all_cons, Bool.and_eq_true] at h
    rw [List.cons_append, List.takeWhile_cons, if_pos h.1, takeWhile_append_all b h.2, List.cons_append]
theorem takeWhile_append_not {p : Wd → Bool} : ∀ {a : List Wd} (b : List Wd), a.all p = false → (a ++ b).takeWhile p = a.takeWhile p
  | [], _, h => by simp at h
  | x :: r, b, h => by
    rw [List.cons_append, List.takeWhile_cons, List.takeWhile_cons]
    by_cases hx : p x = true
    · rw [if_pos hx, if_pos hx, takeWhile_append_not b (by simpa [hx] using h)]
    · rw [if_neg hx, if_neg hx]
theorem rword_nil {r : RSt} (h : r.cur = []) : rword r = [] := by unfold rword; rw [if_pos h]
theorem rword_shut {o : List Wd} {l c : Int} {m : Bool} : rword ⟨o, l, c, [], m⟩ = [] := by unfold rword; simp
theorem notRemark_ext (x : Wd) (c : UInt8) (h : x.text ≠ []) : notRemark ⟨x.text ++ [c], x.line, x.col⟩ = notRemark x := by
  unfold notRemark
  match ht : x.text, h with
  | y :: t, _ => simp
/-- A remark is there: a word that grows changes nothing. -/
theorem extLast_rem (c : UInt8) : ∀ (l : List Wd), (∀ x ∈ l, x.text ≠ []) → l.all notRemark = false → (extLast c l).takeWhile notRemark = l.takeWhile notRemark ∧ (extLast c l).all notRemark = false
  | [], _, h => by simp at h
  | [x], hf, h => by
    have e := notRemark_ext x c (hf x (by simp))
    simp only [List.all_cons, List.all_nil, Bool.and_true] at h
    show ([⟨x.text ++ [c], x.line, x.col⟩] : List Wd).takeWhile notRemark = _ ∧ ([⟨x.text ++ [c], x.line, x.col⟩] : List Wd).all notRemark = false
    simp [e, h]
  | x :: y :: r, hf, h => by
    show (x :: extLast c (y :: r)).takeWhile notRemark = _ ∧ (x :: extLast c (y :: r)).all notRemark = false
    by_cases hx : notRemark x = true
    · have ih := extLast_rem c (y :: r) (fun z hz => hf z (by simp [hz])) (by rw [List.all_cons, hx, Bool.true_and] at h; exact h)
      rw [List.takeWhile_cons, List.takeWhile_cons, if_pos hx, if_pos hx, ih.1, List.all_cons, hx, ih.2]
      exact ⟨rfl, rfl⟩
    · rw [List.takeWhile_cons, List.takeWhile_cons, if_neg hx, if_neg hx]
      exact ⟨rfl, by simp [hx]⟩
theorem rinv_nil (out0 : List Wd) (n : Int) : RInv out0 n [] ⟨out0, n, 1, [], false⟩ :=
  ⟨rfl, rfl, by simp [rword, lst], by simp [lst], fun _ => rfl, fun _ => rfl, fun h => by simp [lst] at h⟩
theorem rinv_step {out0 : List Wd} {n : Int} {p : List UInt8} {r : RSt} {c : UInt8} (h : RInv out0 n p r) (hc : c ≠ 10) : RInv out0 n (p ++ [c]) (rstep r c) := by
  obtain ⟨h1, h2, h3, h4, h5, h6, h7⟩ := h
  have hful := lst_full n p
  by_cases hb : blankB c.toNat = true
  · have e : lst n (p ++ [c]) = ⟨(lst n p).out, false, (lst n p).i + 1⟩ := by rw [lst_snoc]; unfold lstep; rw [if_pos hb]
    have er : rstep r c = ⟨r.out ++ rword r, r.line, r.col + 1, [], r.rem⟩ := by unfold rstep; rw [if_neg hc, if_pos hb]
    rw [er]
    refine ⟨h1, by simp [h2], ?_, by rw [e]; exact h4, fun _ => rfl, fun _ => rfl, fun ho => (by rw [e] at ho; cases ho)⟩
    rw [e, rword_shut, List.append_nil]; exact h3
  · by_cases ho : (lst n p).op = true
    · have e : lst n (p ++ [c]) = ⟨extLast c (lst n p).out, true, (lst n p).i + 1⟩ := by rw [lst_snoc]; unfold lstep; rw [if_neg hb, if_pos ho]
      cases hr : r.rem
      · obtain ⟨q, x, g1, g2, g3, g4, g5, g6, g7⟩ := h7 ho hr
        have er : rstep r c = ⟨r.out, r.line, r.col + 1, r.cur ++ [c], r.rem⟩ := by
          unfold rstep; rw [if_neg hc, if_neg hb, if_neg (fun hh => g3 hh.1), if_neg g3]
        have hall : (lst n p).out.all notRemark = true := by rw [hr] at h4; simpa using h4.symm
        have hx : notRemark x = true := by rw [g1, List.all_append] at hall; simp at hall; exact hall.2
        have hxe : notRemark ⟨x.text ++ [c], x.line, x.col⟩ = true := by rw [notRemark_ext x c (by rw [g2]; exact g3)]; exact hx
        have hoe : extLast c (lst n p).out = q ++ [⟨x.text ++ [c], x.line, x.col⟩] := by rw [g1, extLast_snoc]
        have hnew : (⟨r.cur ++ [c], r.line, r.col + 1 - ((r.cur ++ [c]).length : Nat)⟩ : Wd) = ⟨x.text ++ [c], x.line, x.col⟩ := by
          rw [g2, h1, g6, g7]; simp; omega
        rw [er]
        refine ⟨h1, by simp [h2], ?_, ?_, fun hh => (by rw [e] at hh; cases hh), fun hh => ?_, fun _ _ => ?_⟩
        · rw [e, hoe, takeWhile_append_all _ g5]
          simp only [List.takeWhile_cons, hxe, if_true, List.takeWhile_nil]
          unfold rword
          simp only [List.append_eq_nil_iff, List.cons_ne_nil, and_false, if_false]
          rw [hnew, g4, List.append_assoc]
        · rw [e, hoe, hr]; simp [g5, hxe]
        · exact absurd hh (by show ¬ r.rem = true; rw [hr]; decide)
        · rw [e]
          exact ⟨q, _, hoe, by rw [g2], by simp, g4, g5, g6, by rw [← hnew]⟩
      · have hcur := h6 hr
        have er : rstep r c = ⟨r.out, r.line, r.col + 1, [], r.rem⟩ := by
          unfold rstep; rw [if_neg hc, if_neg hb, if_neg (fun hh => by rw [hr] at hh; cases hh.2), if_pos hcur]
        have hall : (lst n p).out.all notRemark = false := by rw [hr] at h4; simpa using h4.symm
        have ht := extLast_rem c _ (fun x hx => (hful x hx).1) hall
        rw [rword_nil hcur, List.append_nil] at h3
        rw [er]
        refine ⟨h1, by simp [h2], ?_, ?_, fun _ => rfl, fun _ => rfl, fun _ hh => ?_⟩
        · rw [e, rword_shut, List.append_nil, ht.1]; exact h3
        · rw [e, ht.2, hr]; rfl
        · exact absurd hh (by show ¬ r.rem = false; rw [hr]; decide)
    · have ho' : (lst n p).op = false := by simpa using ho
      have hcur := h5 ho'
      have e : lst n (p ++ [c]) = ⟨(lst n p).out ++ [⟨[c], n, ((lst n p).i : Int) + 1⟩], true, (lst n p).i + 1⟩ := by rw [lst_snoc]; unfold lstep; rw [if_neg hb, if_neg ho]
      rw [rword_nil hcur, List.append_nil] at h3
      cases hr : r.rem
      · have hall : (lst n p).out.all notRemark = true := by rw [hr] at h4; simpa using h4.symm
        have htw : (lst n p).out.takeWhile notRemark = (lst n p).out := takeWhile_all _ _ hall
        by_cases h35 : c = 35
        · have er : rstep r c = ⟨r.out, r.line, r.col + 1, [], true⟩ := by
            unfold rstep; rw [if_neg hc, if_neg hb, if_pos ⟨hcur, hr⟩, if_pos h35]
          have hno : notRemark ⟨[c], n, ((lst n p).i : Int) + 1⟩ = false := by rw [h35]; rfl
          rw [er]
          refine ⟨h1, by simp [h2], ?_, ?_, fun _ => rfl, fun _ => rfl, fun _ hh => by cases hh⟩
          · rw [e, rword_shut, List.append_nil, takeWhile_append_all _ hall]
            simp only [List.takeWhile_cons, hno]
            rw [h3, htw]; simp
          · rw [e]; simp [hno, hall]
        · have er : rstep r c = ⟨r.out, r.line, r.col + 1, [c], false⟩ := by
            unfold rstep; rw [if_neg hc, if_neg hb, if_pos ⟨hcur, hr⟩, if_neg h35]
          have hyes : notRemark ⟨[c], n, ((lst n p).i : Int) + 1⟩ = true := by unfold notRemark; simp [h35]
          have hi := lst_i n p
          rw [er]
          have hnew : (⟨[c], r.line, r.col + 1 - (([c] : List UInt8).length : Nat)⟩ : Wd) = ⟨[c], n, ((lst n p).i : Int) + 1⟩ := by rw [h1, h2, hi]; simp
          refine ⟨h1, by simp [h2], ?_, ?_, fun hh => (by rw [e] at hh; cases hh), fun hh => (by cases hh), fun _ _ => ?_⟩
          · rw [e, takeWhile_append_all _ hall]
            simp only [List.takeWhile_cons, hyes, if_true, List.takeWhile_nil]
            unfold rword
            simp only [List.cons_ne_nil, if_false]
            rw [hnew, h3, htw, List.append_assoc]
          · rw [e]; simp [hyes, hall]
          · rw [e]
            exact ⟨_, _, rfl, rfl, by simp, by rw [← htw]; exact h3, hall, rfl, by rw [← hnew]⟩
      · have hall : (lst n p).out.all notRemark = false := by rw [hr] at h4; simpa using h4.symm
        have er : rstep r c = ⟨r.out, r.line, r.col + 1, [], r.rem⟩ := by
          unfold rstep; rw [if_neg hc, if_neg hb, if_neg (fun hh => by rw [hr] at hh; cases hh.2), if_pos hcur]
        rw [er]
        refine ⟨h1, by simp [h2], ?_, ?_, fun _ => rfl, fun _ => rfl, fun _ hh => ?_⟩
        · rw [e, rword_shut, List.append_nil, takeWhile_append_not _ hall]; exact h3
        · rw [e, hr]; simp [hall]
        · exact absurd hh (by show ¬ r.rem = false; rw [hr]; decide)
theorem rfold_inv (out0 : List Wd) (n : Int) (p : List UInt8) (hp : ∀ c ∈ p, c ≠ 10) : RInv out0 n p (rfold ⟨out0, n, 1, [], false⟩ p) := by
  obtain ⟨m, rfl⟩ : ∃ m : List UInt8, p = m.reverse := ⟨p.reverse, by simp⟩
  induction m with
  | nil => exact rinv_nil out0 n
  | cons c r ih =>
    rw [List.reverse_cons] at hp ⊢
    rw [rfold_append]
    exact rinv_step (ih (fun x hx => hp x (by simp at hx ⊢; exact .inl hx))) (hp c (by simp))
theorem rfold_line (out0 : List Wd) (n : Int) (p : List UInt8) (hp : ∀ c ∈ p, c ≠ 10) : rfold ⟨out0, n, 1, [], false⟩ (p ++ [10]) = ⟨out0 ++ lineWords n p, n + 1, 1, [], false⟩ := by
  have h := rfold_inv out0 n p hp
  rw [rfold_append]
  show rstep _ 10 = _
  unfold rstep
  rw [if_pos rfl, h.out, h.line]; rfl
theorem split_line : ∀ l : List UInt8, (∀ c ∈ l, c ≠ 10) ∨ ∃ x r, l = x ++ 10 :: r ∧ ∀ c ∈ x, c ≠ (10 : UInt8)
  | [] => .inl (by simp)
  | c :: l => by
    by_cases hc : c = 10
    · exact .inr ⟨[], l, by simp [hc], by simp⟩
    · rcases split_line l with h | ⟨x, r, e, h⟩
      · exact .inl (fun y hy => by rcases List.mem_cons.1 hy with rfl | hy; exact hc; exact h y hy)
      · exact .inr ⟨c :: x, r, by rw [e]; rfl, fun y hy => by rcases List.mem_cons.1 hy with rfl | hy; exact hc; exact h y hy⟩
/-- The one pass gives what the lines give. -/
theorem rfold_text : ∀ (k : Nat) (l : List UInt8) (out0 : List Wd) (n : Int), l.length ≤ k → ∃ n', rfold ⟨out0, n, 1, [], false⟩ (l ++ [10]) = ⟨out0 ++ cutW n (linesOf l), n', 1, [], false⟩
  | 0, l, out0, n, h => by
    obtain rfl : l = [] := List.eq_nil_of_length_eq_zero (by omega)
    refine ⟨n + 1, ?_⟩
    rw [rfold_line out0 n [] (by simp)]
    simp [linesOf, cutW]
  | k + 1, l, out0, n, h => by
    rcases split_line l with hp | ⟨x, r, rfl, hx⟩
    · refine ⟨n + 1, ?_⟩
      rw [rfold_line out0 n l hp, linesOf_plain l hp]; simp [cutW]
    · obtain ⟨n', e⟩ := rfold_text k r (out0 ++ lineWords n x) (n + 1) (by simp at h; omega)
      refine ⟨n', ?_⟩
      rw [show x ++ 10 :: r ++ [10] = (x ++ [10]) ++ (r ++ [10]) by simp, rfold_append, rfold_line out0 n x hx, e, linesOf_cut x r hx]
      simp [cutW]
end Go.Proofs.YtcglbbabfkbcbabDoor
