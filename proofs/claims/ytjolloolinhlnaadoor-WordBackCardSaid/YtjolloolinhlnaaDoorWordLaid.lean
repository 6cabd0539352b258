/-
  Words that are laid with gaps between them are cut as they were: plain laws on lists of bytes.
-/
import Derived.Test.YtjolloolinhlnaaDoorWordRef
import Derived.Test.YtjolloolinhlnaaDoorWordFails
namespace Go.Proofs.YtjolloolinhlnaaDoor
open Go.RowKit

/-- The bytes of a word that stands alone. -/
structure GoodW (l : List UInt8) : Prop where
  ne : l ≠ []
  letter : ∀ c ∈ l, okB c = true ∧ blankB c.toNat = false ∧ c ≠ 10
  head : l.head? ≠ some 35
theorem cutE_all : ∀ (ls : List (List UInt8)) (n : Int), 1 ≤ n → cutE n ls = 0 → ∀ l ∈ ls, l.all okB = true
  | [], _, _, _, _, h => by simp at h
  | y :: r, n, hn, h, l, hl => by
    have h3 : (if y.all okB = true then cutE (n + 1) r else n) = 0 := h
    by_cases h4 : y.all okB = true
    · rw [if_pos h4] at h3
      rcases List.mem_cons.1 hl with rfl | hl
      · exact h4
      · exact cutE_all r (n + 1) (by omega) h3 l hl
    · rw [if_neg h4] at h3; omega
theorem lst_bytes (n : Int) (l : List UInt8) : ∀ x ∈ (lst n l).out, ∀ c ∈ x.text, c ∈ l ∧ blankB c.toNat = false := by
  obtain ⟨m, rfl⟩ : ∃ m : List UInt8, l = m.reverse := ⟨l.reverse, by simp⟩
  induction m with
  | nil => simp [lst]
  | cons c r ih =>
    rw [List.reverse_cons, lst_snoc]
    unfold lstep
    by_cases hb : blankB c.toNat = true
    · rw [if_pos hb]
      intro x hx d hd
      have := ih x hx d hd
      exact ⟨by simp at this ⊢; exact .inl this.1, this.2⟩
    · have hb' : blankB c.toNat = false := by simpa using hb
      rw [if_neg hb]
      split
      · intro y hy d hd
        rcases extLast_mem hy with h | ⟨q, hq, rfl⟩
        · have := ih y h d hd
          exact ⟨by simp at this ⊢; exact .inl this.1, this.2⟩
        · rcases List.mem_append.1 hd with hd | hd
          · have := ih q hq d hd
            exact ⟨by simp at this ⊢; exact .inl this.1, this.2⟩
          · simp at hd; subst hd; exact ⟨by simp, hb'⟩
      · intro y hy d hd
        rcases List.mem_append.1 hy with h | h
        · have := ih y h d hd
          exact ⟨by simp at this ⊢; exact .inl this.1, this.2⟩
        · simp at h; subst h; simp at hd; subst hd; exact ⟨by simp, hb'⟩
theorem cutW_mem : ∀ (ls : List (List UInt8)) (n : Int) (x : Wd), x ∈ cutW n ls → ∃ l ∈ ls, ∃ k, x ∈ lineWords k l
  | [], _, _, h => by simp [cutW] at h
  | y :: r, n, x, h => by
    rcases List.mem_append.1 (show x ∈ lineWords n y ++ cutW (n + 1) r from h) with h | h
    · exact ⟨y, by simp, n, h⟩
    · obtain ⟨l, hl, k, hk⟩ := cutW_mem r (n + 1) x h
      exact ⟨l, by simp [hl], k, hk⟩
theorem takeWhile_holds {α : Type} {p : α → Bool} : ∀ {l : List α} {x : α}, x ∈ l.takeWhile p → p x = true
  | [], _, h => by simp at h
  | y :: r, x, h => by
    rw [List.takeWhile_cons] at h
    by_cases hy : p y = true
    · rw [if_pos hy] at h
      rcases List.mem_cons.1 h with rfl | h
      · exact hy
      · exact takeWhile_holds h
    · rw [if_neg hy] at h; simp at h
theorem good_of_is {s : ByteArray} (h : isWordB s = true) : s.size ≤ 4000 ∧ GoodW s.toList := by
  unfold isWordB at h
  simp only [Bool.and_eq_true, decide_eq_true_eq] at h
  obtain ⟨⟨h1, h2⟩, h3⟩ := h
  refine ⟨h1, ?_⟩
  have key : ∃ x, cutW 1 (linesL s) = [x] ∧ (⟨x.text.toArray⟩ : ByteArray) = s := by
    split at h3
    · next x e => exact ⟨x, e, of_decide_eq_true h3⟩
    · cases h3
  obtain ⟨x, hx, hs⟩ := key
  obtain ⟨l, hl, k, hk⟩ := cutW_mem _ _ x (by rw [hx]; simp)
  have hall := cutE_all _ 1 (by omega) h2 l hl
  have hxt : s.toList = x.text := by rw [← hs, ByteArray.toList_eq]
  have hk' : x ∈ (lst k l).out := (List.takeWhile_sublist _).subset hk
  have hnr := takeWhile_holds hk
  rw [hxt]
  refine ⟨(lst_full k l x hk').1, fun c hc => ?_, ?_⟩
  · have := lst_bytes k l x hk' c hc
    have hok := List.all_eq_true.1 hall c this.1
    exact ⟨hok, this.2, fun e => by subst e; rw [okB_ten] at hok; cases hok⟩
  · unfold notRemark at hnr
    simpa using hnr
theorem rfold_word : ∀ (l : List UInt8) (o : List Wd) (n c : Int) (cur : List UInt8), cur ≠ [] → (∀ d ∈ l, okB d = true ∧ blankB d.toNat = false ∧ d ≠ 10) → rfold ⟨o, n, c, cur, false⟩ l = ⟨o, n, c + (l.length : Nat), cur ++ l, false⟩
  | [], o, n, c, cur, _, _ => by simp [rfold]
  | d :: r, o, n, c, cur, hne, h => by
    obtain ⟨_, h2, h3⟩ := h d (by simp)
    show rfold (rstep ⟨o, n, c, cur, false⟩ d) r = _
    have e : rstep ⟨o, n, c, cur, false⟩ d = ⟨o, n, c + 1, cur ++ [d], false⟩ := by
      unfold rstep
      rw [if_neg h3, if_neg (by simp [h2]), if_neg (fun hh => hne hh.1), if_neg hne]
    rw [e, rfold_word r o n (c + 1) (cur ++ [d]) (by simp) (fun x hx => h x (by simp [hx]))]
    simp; omega
theorem rfold_good (l : List UInt8) (o : List Wd) (n c : Int) (h : GoodW l) : rfold ⟨o, n, c, [], false⟩ l = ⟨o, n, c + (l.length : Nat), l, false⟩ := by
  obtain ⟨hne, hl, hh⟩ := h
  match l, hne with
  | d :: r, _ =>
    obtain ⟨_, h2, h3⟩ := hl d (by simp)
    have h35 : d ≠ 35 := fun e => hh (by simp [e])
    show rfold (rstep ⟨o, n, c, [], false⟩ d) r = _
    have e : rstep ⟨o, n, c, [], false⟩ d = ⟨o, n, c + 1, [d], false⟩ := by
      unfold rstep
      rw [if_neg h3, if_neg (by simp [h2]), if_pos ⟨rfl, rfl⟩, if_neg h35]
    rw [e, rfold_word r o n (c + 1) [d] (by simp) (fun x hx => hl x (by simp [hx]))]
    simp; omega
/-- The gaps between words. -/
def gapL : Nat → List UInt8
  | 0 => [32]
  | 1 => [10]
  | 2 => [32, 9, 32]
  | 3 => [32, 35, 32, 120, 32, 121, 10]
  | _ => [10, 10, 35, 32, 122, 10]
theorem gap_ok (g : Nat) : ∀ c ∈ gapL g, c = 10 ∨ okB c = true := by
  match g with
  | 0 | 1 | 2 | 3 => decide
  | k + 4 => show ∀ c ∈ ([10, 10, 35, 32, 122, 10] : List UInt8), c = 10 ∨ okB c = true; decide
theorem gap_len (g : Nat) : (gapL g).length ≤ 7 := by
  match g with
  | 0 | 1 | 2 | 3 => decide
  | k + 4 => show ([10, 10, 35, 32, 122, 10] : List UInt8).length ≤ 7; decide
theorem rfold_gap (g : Nat) (o : List Wd) (n c : Int) (cur : List UInt8) (hc : 1 ≤ c) : ∃ n' c', rfold ⟨o, n, c, cur, false⟩ (gapL g) = ⟨o ++ rword ⟨o, n, c, cur, false⟩, n', c', [], false⟩ ∧ n ≤ n' ∧ 1 ≤ c' := by
  have b32 : ∀ r : RSt, rstep r 32 = ⟨r.out ++ rword r, r.line, r.col + 1, [], r.rem⟩ := fun r => rfl
  have b9 : ∀ r : RSt, rstep r 9 = ⟨r.out ++ rword r, r.line, r.col + 1, [], r.rem⟩ := fun r => rfl
  have b10 : ∀ r : RSt, rstep r 10 = ⟨r.out ++ rword r, r.line + 1, 1, [], false⟩ := fun r => rfl
  have b35 : ∀ (o : List Wd) (n c : Int), rstep ⟨o, n, c, [], false⟩ 35 = ⟨o, n, c + 1, [], true⟩ := fun _ _ _ => rfl
  have b120 : ∀ (o : List Wd) (n c : Int), rstep ⟨o, n, c, [], true⟩ 120 = ⟨o, n, c + 1, [], true⟩ := fun _ _ _ => rfl
  have b121 : ∀ (o : List Wd) (n c : Int), rstep ⟨o, n, c, [], true⟩ 121 = ⟨o, n, c + 1, [], true⟩ := fun _ _ _ => rfl
  have b122 : ∀ (o : List Wd) (n c : Int), rstep ⟨o, n, c, [], true⟩ 122 = ⟨o, n, c + 1, [], true⟩ := fun _ _ _ => rfl
  match g with
  | 0 => exact ⟨n, c + 1, by simp [gapL, rfold, b32], by omega, by omega⟩
  | 1 => exact ⟨n + 1, 1, by simp [gapL, rfold, b10], by omega, by omega⟩
  | 2 => exact ⟨n, c + 1 + 1 + 1, by simp [gapL, rfold, b32, b9, rword_shut], by omega, by omega⟩
  | 3 => exact ⟨n + 1, 1, by simp [gapL, rfold, b32, b10, b35, b120, b121, rword_shut], by omega, by omega⟩
  | k + 4 => exact ⟨n + 1 + 1 + 1, 1, by simp [gapL, rfold, b32, b10, b35, b122, rword_shut], by omega, by omega⟩
/-- Words, each with a gap behind it. -/
def laid (ps : List (List UInt8 × Nat)) : List UInt8 := ps.flatMap fun p => p.1 ++ gapL p.2
theorem laid_snoc (ps : List (List UInt8 × Nat)) (p : List UInt8 × Nat) : laid (ps ++ [p]) = laid ps ++ (p.1 ++ gapL p.2) := by simp [laid]
theorem rfold_laid : ∀ (ps : List (List UInt8 × Nat)) (o : List Wd) (n c : Int), 1 ≤ n → 1 ≤ c → (∀ p ∈ ps, GoodW p.1) →
    ∃ ws n' c', rfold ⟨o, n, c, [], false⟩ (laid ps) = ⟨o ++ ws, n', c', [], false⟩ ∧ ws.map Wd.text = ps.map Prod.fst ∧ (∀ x ∈ ws, 1 ≤ x.line ∧ 1 ≤ x.col) ∧ 1 ≤ n' ∧ 1 ≤ c'
  | [], o, n, c, hn, hc, _ => ⟨[], n, c, by simp [laid, rfold], rfl, by simp, hn, hc⟩
  | p :: r, o, n, c, hn, hc, h => by
    have hg := h p (by simp)
    have e1 := rfold_good p.1 o n c hg
    obtain ⟨n1, c1, e2, hn1, hc1⟩ := rfold_gap p.2 o n (c + (p.1.length : Nat)) p.1 (by omega)
    obtain ⟨ws, n', c', e3, t3, l3, hn', hc'⟩ := rfold_laid r (o ++ [⟨p.1, n, c⟩]) n1 c1 (by omega) hc1 (fun q hq => h q (by simp [hq]))
    have er : rword ⟨o, n, c + (p.1.length : Nat), p.1, false⟩ = [⟨p.1, n, c⟩] := by
      unfold rword
      rw [if_neg hg.ne]
      have e0 : c + (p.1.length : Nat) - (p.1.length : Nat) = c := by omega
      show [(⟨p.1, n, c + (p.1.length : Nat) - (p.1.length : Nat)⟩ : Wd)] = _
      rw [e0]
    rw [er] at e2
    refine ⟨⟨p.1, n, c⟩ :: ws, n', c', ?_, by simp [t3], ?_, hn', hc'⟩
    · show rfold _ ((p.1 ++ gapL p.2) ++ laid r) = _
      rw [rfold_append, rfold_append, e1, e2, e3]; simp
    · intro x hx
      rcases List.mem_cons.1 hx with rfl | hx
      · exact ⟨hn, hc⟩
      · exact l3 x hx
theorem laid_ok (ps : List (List UInt8 × Nat)) (h : ∀ p ∈ ps, GoodW p.1) : ∀ c ∈ laid ps, c = 10 ∨ okB c = true := by
  intro c hc
  unfold laid at hc
  rw [List.mem_flatMap] at hc
  obtain ⟨p, hp, hc⟩ := hc
  rcases List.mem_append.1 hc with hc | hc
  · exact .inr ((h p hp).letter c hc).1
  · exact gap_ok _ c hc
/-- What is cut out of words that are laid. -/
theorem cut_laid (ps : List (List UInt8 × Nat)) (s : ByteArray) (hs : s.toList = laid ps) (h : ∀ p ∈ ps, GoodW p.1) :
    cutE 1 (linesL s) = 0 ∧ (cutW 1 (linesL s)).map Wd.text = ps.map Prod.fst ∧ ∀ x ∈ cutW 1 (linesL s), 1 ≤ x.line ∧ 1 ≤ x.col := by
  rw [linesL_is, hs]
  obtain ⟨n', e⟩ := rfold_text _ (laid ps) [] 1 (Nat.le_refl _)
  obtain ⟨ws, n2, c2, e2, t2, l2, _, _⟩ := rfold_laid ps [] 1 1 (by omega) (by omega) h
  rw [rfold_append, e2] at e
  have e3 : cutW 1 (linesOf (laid ps)) = ws := by
    have : (rfold ⟨[] ++ ws, n2, c2, [], false⟩ [10]).out = ws := by
      show ([] ++ ws) ++ rword _ = ws
      rw [rword_nil rfl]; simp
    rw [e] at this
    simpa using this
  rw [e3]
  exact ⟨cutE_zero _ _ (laid_ok ps h), t2, l2⟩
end Go.Proofs.YtjolloolinhlnaaDoor
