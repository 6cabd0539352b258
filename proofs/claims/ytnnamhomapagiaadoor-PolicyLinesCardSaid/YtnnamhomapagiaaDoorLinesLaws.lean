/-
  The first line that is none is told, wherever it stands: plain laws on lists.
-/
import Derived.Test.YtnnamhomapagiaaDoorPolSaid
namespace Go.Proofs.YtnnamhomapagiaaDoor
open Go.RowKit

theorem linesOf_app : ∀ (a r : List UInt8), linesOf (a ++ 10 :: r) = linesOf a ++ linesOf r
  | [], r => by
    have e : linesOf (10 :: r) = [] :: linesOf r := by rw [linesOf, if_pos rfl]
    show linesOf (10 :: r) = linesOf [] ++ linesOf r
    rw [e]; rfl
  | c :: a, r => by
    have ih := linesOf_app a r
    by_cases hc : c = 10
    · subst hc
      have e1 : ∀ l, linesOf (10 :: l) = [] :: linesOf l := fun l => by rw [linesOf, if_pos rfl]
      rw [List.cons_append, e1, e1, ih]; rfl
    · obtain ⟨y, ys, h1, h2⟩ := linesOf_cons hc a
      obtain ⟨z, zs, h3, h4⟩ := linesOf_cons hc (a ++ 10 :: r)
      rw [List.cons_append, h4, h2]
      rw [h3, h1] at ih
      injection ih with i1 i2
      rw [i1, i2]; rfl
theorem cutE_ge : ∀ (ls : List (List UInt8)) (n : Int), cutE n ls = 0 ∨ n ≤ cutE n ls
  | [], n => .inl rfl
  | x :: r, n => by
    have e : cutE n (x :: r) = if x.all okB = true then cutE (n + 1) r else n := rfl
    rw [e]
    split
    · rcases cutE_ge r (n + 1) with h | h
      · exact .inl h
      · exact .inr (by omega)
    · exact .inr (Int.le_refl _)
theorem tiersL_ge (nm : List UInt8) : ∀ (ls : List (List UInt8)) (n : Int) (acc : List Ti) (e a : Int), tiersL nm n ls acc = .bad e a → n ≤ a
  | [], n, acc, e, a, h => by simp [tiersL] at h
  | l :: r, n, acc, e, a, h => by
    unfold tiersL at h
    split at h
    · have := tiersL_ge nm r (n + 1) acc e a h; omega
    · split at h
      · have := tiersL_ge nm r (n + 1) _ e a h; omega
      · injection h with _ h2; omega
theorem tierOk_any {g : List (List UInt8)} (h : tierOk g 0 = false) (n : Nat) : tierOk g n = false := by
  unfold tierOk at h ⊢
  cases h5 : decide (n = 5)
  · rw [show decide ((0 : Nat) = 5) = false from rfl] at h; exact h
  · simp
theorem one_line (ps : List (List UInt8 × List UInt8)) (w X : List UInt8) (hp : ∀ p ∈ ps, Wrd p.1 ∧ p.2 = [32]) (hw : Wrd w) :
    linesOf ((line2 ps ++ w) ++ 10 :: X) = (line2 ps ++ w) :: linesOf X ∧ lineG (line2 ps ++ w) = ps.map Prod.fst ++ [w] ∧ (line2 ps ++ w).all okB = true := by
  have hline : ∀ c ∈ line2 ps ++ w, c ≠ 10 ∧ okB c = true := by
    intro c hc
    rcases List.mem_append.1 hc with hc | hc
    · unfold line2 at hc
      obtain ⟨p, hp1, hc⟩ := List.mem_flatMap.1 hc
      rcases List.mem_append.1 hc with hc | hc
      · exact ⟨((hp p hp1).1.sep c hc).2, (hp p hp1).1.ok c hc⟩
      · rw [(hp p hp1).2] at hc
        rw [List.mem_singleton.1 hc]; decide
    · exact ⟨(hw.sep c hc).2, hw.ok c hc⟩
  refine ⟨linesOf_cut _ _ (fun c hc => (hline c hc).1), ?_, List.all_eq_true.2 (fun c hc => (hline c hc).2)⟩
  rw [(lineG_line ps (fun p hq => ⟨(hp p hq).1.plain, by rw [(hp p hq).2]; exact ⟨by decide, by decide⟩⟩) w hw.plain).1]
  have := remG_all (ps.map Prod.fst ++ [w]) [] (by
    intro t ht
    rcases List.mem_append.1 ht with ht | ht
    · obtain ⟨p, hq, rfl⟩ := List.mem_map.1 ht
      exact (hp p hq).1.head
    · rw [List.mem_singleton.1 ht]; exact hw.head)
  rw [List.append_nil] at this
  rw [this]; simp [remG]
theorem tier_line (t : Ti) (ht : t.Fine) (X : List UInt8) : ∃ x, linesOf (tierP t ++ X) = x :: linesOf X ∧ lineG x = [sTier, t.nm.toList, sEvery, Lib.itoa t.ev, sKeep, Lib.itoa t.kp, sShards, Lib.itoa t.sh] ∧ x.all okB = true := by
  obtain ⟨h1, h2, h3⟩ := one_line [(sTier, [32]), (t.nm.toList, [32]), (sEvery, [32]), (Lib.itoa t.ev, [32]), (sKeep, [32]), (Lib.itoa t.kp, [32]), (sShards, [32])] (Lib.itoa t.sh) X (fun p hp => by
    simp only [List.mem_cons, List.not_mem_nil, or_false] at hp
    rcases hp with rfl | rfl | rfl | rfl | rfl | rfl | rfl
    · exact ⟨wrd_tier, rfl⟩
    · exact ⟨wrd_name ht.nm, rfl⟩
    · exact ⟨wrd_every, rfl⟩
    · exact ⟨wrd_num ht.ev.1, rfl⟩
    · exact ⟨wrd_keep, rfl⟩
    · exact ⟨wrd_num ht.kp.1, rfl⟩
    · exact ⟨wrd_shards, rfl⟩) (wrd_num ht.sh.1)
  refine ⟨_, ?_, h2, h3⟩
  rw [← h1]
  congr 1
  simp [tierP, line2]
theorem tiers_pass (nm : List UInt8) : ∀ (ts : List Ti) (n : Int) (acc : List Ti) (X : List UInt8), (∀ t ∈ ts, t.Fine) → acc.length + ts.length ≤ 5 →
    tiersL nm n (linesOf (ts.flatMap tierP ++ X)) acc = tiersL nm (n + (ts.length : Nat)) (linesOf X) (acc ++ ts) ∧ cutE n (linesOf (ts.flatMap tierP ++ X)) = cutE (n + (ts.length : Nat)) (linesOf X)
  | [], n, acc, X, _, _ => by simp
  | t :: r, n, acc, X, hf, hl => by
    obtain ⟨x, e1, e2, e3⟩ := tier_line t (hf t (by simp)) (r.flatMap tierP ++ X)
    simp only [List.length_cons] at hl
    obtain ⟨t1, t2⟩ := tier_words t (hf t (by simp)) acc.length (by omega)
    obtain ⟨i1, i2⟩ := tiers_pass nm r (n + 1) (acc ++ [t]) X (fun u hu => hf u (by simp [hu])) (by simp; omega)
    have en : n + 1 + (r.length : Nat) = n + ((t :: r).length : Nat) := by simp; omega
    rw [List.flatMap_cons, List.append_assoc, e1, tiersL, e2, if_neg (by simp), if_pos t1, t2, i1, en]
    refine ⟨by simp, ?_⟩
    show (if x.all okB = true then cutE (n + 1) (linesOf (r.flatMap tierP ++ X)) else n) = _
    rw [if_pos e3, i2, en]
theorem head_pass (nm : List UInt8) (hn : validB nm = true) (ts : List Ti) (hf : ∀ t ∈ ts, t.Fine) (hl : ts.length ≤ 5) (X : List UInt8) :
    parseL 1 (linesOf (printL nm ts ++ X)) = tiersL nm ((ts.length : Nat) + 2) (linesOf X) ts ∧ cutE 1 (linesOf (printL nm ts ++ X)) = cutE ((ts.length : Nat) + 2) (linesOf X) := by
  obtain ⟨h1, h2, h3⟩ := one_line [(sPolicy, [32])] nm (ts.flatMap tierP ++ X) (fun p hp => by
    simp only [List.mem_cons, List.not_mem_nil, or_false] at hp
    subst hp
    exact ⟨wrd_policy, rfl⟩) (wrd_name hn)
  have e : printL nm ts ++ X = (line2 [(sPolicy, [32])] ++ nm) ++ 10 :: (ts.flatMap tierP ++ X) := by simp [printL, line2]
  have hx' : lineG (line2 [(sPolicy, [32])] ++ nm) = [sPolicy, nm] := h2
  have hh : headOk [sPolicy, nm] = true := by unfold headOk txt; simp
  obtain ⟨i1, i2⟩ := tiers_pass nm ts 2 [] X hf (by simpa using hl)
  have en : (2 : Int) + (ts.length : Nat) = (ts.length : Nat) + 2 := by omega
  rw [e, h1, parseL, hx', if_neg (by simp), if_pos hh]
  constructor
  · show tiersL nm 2 _ _ = _
    rw [i1, en]; rfl
  · show (if (line2 [(sPolicy, [32])] ++ nm).all okB = true then cutE 2 (linesOf (ts.flatMap tierP ++ X)) else 1) = _
    rw [if_pos h3, i2, en]
theorem cutE_rest : ∀ (a b : List (List UInt8)) (n : Int), (∀ l ∈ b, l.all okB = true) → 1 ≤ n → cutE n a = 0 → cutE n (a ++ b) = 0
  | [], b, n, hb, _, _ => cutE_none b n hb
  | x :: r, b, n, hb, hn, h => by
    have h' : (if x.all okB = true then cutE (n + 1) r else n) = 0 := h
    show (if x.all okB = true then cutE (n + 1) (r ++ b) else n) = 0
    split at h'
    · next hx => rw [if_pos hx, cutE_rest r b (n + 1) hb (by omega) h']
    · omega
theorem linesOf_okB (l : List UInt8) (h : ∀ c ∈ l, c = 10 ∨ okB c = true) : ∀ x ∈ linesOf l, x.all okB = true := by
  induction l with
  | nil => intro x hx; simp [linesOf] at hx; subst hx; rfl
  | cons c r ih =>
    have ih' := ih (fun d hd => h d (by simp [hd]))
    by_cases hc : c = 10
    · subst hc
      have e : linesOf (10 :: r) = [] :: linesOf r := by rw [linesOf, if_pos rfl]
      rw [e]
      intro x hx
      rcases List.mem_cons.1 hx with rfl | hx
      · rfl
      · exact ih' x hx
    · obtain ⟨y, ys, h1, h2⟩ := linesOf_cons hc r
      rw [h2]
      have hco := (h c (by simp)).resolve_left hc
      intro x hx
      rcases List.mem_cons.1 hx with rfl | hx
      · have := ih' y (by rw [h1]; simp)
        simp only [List.all_cons, hco, this]; rfl
      · exact ih' x (by rw [h1]; simp [hx])
def aHead : List UInt8 := [112, 111, 108, 105, 99, 121, 32, 97]
theorem tiers_ok (ts : List Ti) (hf : ∀ t ∈ ts, t.Fine) : ∀ c ∈ ts.flatMap tierP, c = 10 ∨ okB c = true := by
  intro c hc
  exact print_ok [97] ts (by decide) hf c (by unfold printL; exact List.mem_append_right _ hc)
/-- The line that is none is told. -/
theorem lines_told (nm : List UInt8) (ts : List Ti) (at_ : Nat) (hn : validB nm = true) (hf : ∀ t ∈ ts, t.Fine) (hl : ts.length ≤ 5) (hat : at_ ≤ ts.length) (bad S T : ByteArray) (hbs : bad.size ≤ 200)
    (hS : S.toList = aHead ++ 10 :: bad.toList) (hT : T.toList = printL nm (ts.take at_) ++ (bad.toList ++ 10 :: (ts.drop at_).flatMap tierP)) (h : parseT S = .bad 22 2) : parseT T = .bad 22 ((at_ : Int) + 2) := by
  have hSs : S.size ≤ 4000 := by rw [← len_toList, hS]; simp [aHead, len_toList]; omega
  have hTs : T.size ≤ 4000 := by
    rw [← len_toList, hT]
    have h1 := print_len (nm := nm) (ts := ts.take at_) hn (fun t ht => hf t (List.mem_of_mem_take ht)) (by rw [List.length_take]; omega)
    have h2 := print_len (nm := nm) (ts := ts.drop at_) hn (fun t ht => hf t (List.mem_of_mem_drop ht)) (by rw [List.length_drop]; omega)
    unfold printL at h2
    rw [List.length_append] at h2
    simp only [List.length_append, List.length_cons, len_toList]; omega
  rw [parseT_is, if_neg (by omega), hS, linesOf_cut _ _ (by decide)] at h
  have hao : aHead.all okB = true := by decide
  have hag : lineG aHead = [sPolicy, [97]] := by decide
  have e1 : cutE 1 (aHead :: linesOf bad.toList) = cutE 2 (linesOf bad.toList) := by
    show (if aHead.all okB = true then _ else _) = _
    rw [if_pos hao]; rfl
  have htl : (ts.take at_).length = at_ := by rw [List.length_take]; omega
  obtain ⟨p1, p2⟩ := head_pass nm hn (ts.take at_) (fun t ht => hf t (List.mem_of_mem_take ht)) (by omega) (bad.toList ++ 10 :: (ts.drop at_).flatMap tierP)
  rw [htl, linesOf_app] at p1 p2
  obtain ⟨b0, bs, hb⟩ : ∃ b0 bs, linesOf bad.toList = b0 :: bs := by
    cases hh : linesOf bad.toList with
    | nil => exact absurd hh (linesOf_ne _)
    | cons b0 bs => exact ⟨b0, bs, rfl⟩
  rw [e1] at h
  rw [parseT_is, if_neg (by omega), hT, p1, p2, hb]
  rw [hb] at h
  have ec : ∀ n : Int, cutE n (b0 :: bs) = if b0.all okB = true then cutE (n + 1) bs else n := fun n => rfl
  have hap : b0 :: bs ++ linesOf ((ts.drop at_).flatMap tierP) = b0 :: (bs ++ linesOf ((ts.drop at_).flatMap tierP)) := rfl
  by_cases hz : cutE 2 (b0 :: bs) ≠ 0
  · rw [if_pos hz] at h
    injection h with _ h2
    have hb0 : ¬ b0.all okB = true := fun hb0 => by
      rw [ec, if_pos hb0] at h2 hz
      rcases cutE_ge bs (2 + 1) with h3 | h3
      · exact hz h3
      · omega
    have e2 : cutE ((at_ : Nat) + 2 : Int) (b0 :: bs ++ linesOf ((ts.drop at_).flatMap tierP)) = (at_ : Int) + 2 := by
      rw [hap]
      show (if b0.all okB = true then _ else _) = _
      rw [if_neg hb0]
    rw [e2, if_pos (by omega)]
  · have hz' : cutE 2 (b0 :: bs) = 0 := Decidable.of_not_not hz
    rw [if_neg hz, parseL, hag, if_neg (by simp), if_pos (by decide)] at h
    have hshift : ∀ (ls : List (List UInt8)) (n m : Int), 1 ≤ n → 1 ≤ m → cutE n ls = 0 → cutE m ls = 0 := by
      intro ls
      induction ls with
      | nil => intro _ _ _ _ _; rfl
      | cons x r ih =>
        intro n m hn hm h
        have h' : (if x.all okB = true then cutE (n + 1) r else n) = 0 := h
        show (if x.all okB = true then cutE (m + 1) r else m) = 0
        split at h'
        · next hx => rw [if_pos hx]; exact ih (n + 1) (m + 1) (by omega) (by omega) h'
        · omega
    have e2 : cutE ((at_ : Nat) + 2 : Int) (b0 :: bs ++ linesOf ((ts.drop at_).flatMap tierP)) = 0 :=
      cutE_rest _ _ _ (linesOf_okB _ (tiers_ok _ (fun t ht => hf t (List.mem_of_mem_drop ht)))) (by omega) (hshift _ 2 _ (by omega) (by omega) hz')
    rw [e2, if_neg (by decide), hap]
    unfold tiersL at h
    split at h
    · have := tiersL_ge _ _ _ _ _ _ h; omega
    · next hg =>
      split at h
      · have := tiersL_ge _ _ _ _ _ _ h; omega
      · next ht =>
        unfold tiersL
        rw [if_neg hg, if_neg (by rw [tierOk_any (by simpa using ht)]; decide)]
/-- Two beginnings that end with a line's end, and hold as many of them, are one. -/
theorem prefix_one {S a b : List UInt8} (ha : ∃ r, S = (a ++ [10]) ++ r) (hb : ∃ r, S = (b ++ [10]) ++ r) (hc : (a ++ [10]).count 10 = (b ++ [10]).count 10) : a ++ [10] = b ++ [10] := by
  have key : ∀ {a b : List UInt8} {r q : List UInt8}, (a ++ [10]) ++ r = (b ++ [10]) ++ q → (a ++ [10]).count 10 = (b ++ [10]).count 10 → (a ++ [10]).length ≤ (b ++ [10]).length → a ++ [10] = b ++ [10] := by
    intro a b r q h hc hl
    have h1 : (a ++ [10]) = (b ++ [10]).take (a ++ [10]).length := by
      have h2 : ((a ++ [10]) ++ r).take (a ++ [10]).length = ((b ++ [10]) ++ q).take (a ++ [10]).length := by rw [h]
      rw [List.take_left, List.take_append_of_le_length hl] at h2
      exact h2
    obtain ⟨d, hd⟩ : ∃ d, b ++ [10] = (a ++ [10]) ++ d := ⟨(b ++ [10]).drop (a ++ [10]).length, by conv => lhs; rw [← List.take_append_drop (a ++ [10]).length (b ++ [10]), ← h1]⟩
    have hc2 : (b ++ [10]).count 10 = (a ++ [10]).count 10 + d.count 10 := by rw [hd, List.count_append]
    have hd0 : d.count 10 = 0 := by omega
    cases hdd : d.reverse with
    | nil =>
      have : d = [] := by simpa using hdd
      rw [hd, this, List.append_nil]
    | cons x t =>
      have hdx : d = t.reverse ++ [x] := by have := congrArg List.reverse hdd; simpa using this
      have hx : x = 10 := by
        rw [hdx, ← List.append_assoc] at hd
        have := List.append_inj_right' hd rfl
        simpa using this.symm
      rw [hdx, hx, List.count_append] at hd0
      simp at hd0
  obtain ⟨r, hr⟩ := ha
  obtain ⟨q, hq⟩ := hb
  rcases Nat.le_total (a ++ [10]).length (b ++ [10]).length with h | h
  · exact key (hr.symm.trans hq) hc h
  · exact (key (hq.symm.trans hr) hc.symm h).symm
theorem Wrd.count {w : List UInt8} (h : Wrd w) : w.count 10 = 0 := List.count_eq_zero.2 (fun hm => (h.sep 10 hm).2 rfl)
theorem tierP_count (t : Ti) (h : t.Fine) : (tierP t).count 10 = 1 := by
  unfold tierP
  simp only [List.count_append, wrd_tier.count, (wrd_name h.nm).count, wrd_every.count, (wrd_num h.ev.1).count, wrd_keep.count, (wrd_num h.kp.1).count, wrd_shards.count, (wrd_num h.sh.1).count]
  decide
theorem print_count (nm : List UInt8) (hn : validB nm = true) : ∀ ts : List Ti, (∀ t ∈ ts, t.Fine) → (printL nm ts).count 10 = ts.length + 1 := by
  intro ts hf
  have h1 : (ts.flatMap tierP).count 10 = ts.length := by
    induction ts with
    | nil => rfl
    | cons t r ih => rw [List.flatMap_cons, List.count_append, tierP_count t (hf t (by simp)), ih (fun u hu => hf u (by simp [hu])), List.length_cons]; omega
  unfold printL
  rw [List.count_append, List.count_append, h1, wrd_policy.count, List.count_cons, List.count_append, (wrd_name hn).count]
  simp; omega
theorem print_ends (nm : List UInt8) (ts : List Ti) : ∃ a, printL nm ts = a ++ [10] := by
  rcases List.eq_nil_or_concat ts with rfl | ⟨r, t, rfl⟩
  · exact ⟨sPolicy ++ (32 :: nm), by simp [printL]⟩
  · rw [List.concat_eq_append, show printL nm (r ++ [t]) = printL nm r ++ tierP t from by simp [printL]]
    refine ⟨printL nm r ++ (sTier ++ [32] ++ t.nm.toList ++ [32] ++ sEvery ++ [32] ++ Lib.itoa t.ev ++ [32] ++ sKeep ++ [32] ++ Lib.itoa t.kp ++ [32] ++ sShards ++ [32] ++ Lib.itoa t.sh), ?_⟩
    unfold tierP
    rw [← List.append_assoc]
/-- Where the loop stands still. -/
theorem stop_at {nm : List UInt8} {ts : List Ti} {at_ k : Nat} (hn : validB nm = true) (hf : ∀ t ∈ ts, t.Fine) (hat : at_ ≤ ts.length) (hc : ((printL nm ts).take k).count 10 = at_ + 1) (he : ∃ a, (printL nm ts).take k = a ++ [10]) :
    (printL nm ts).take k = printL nm (ts.take at_) ∧ (printL nm ts).drop k = (ts.drop at_).flatMap tierP := by
  have hsplit : printL nm ts = printL nm (ts.take at_) ++ (ts.drop at_).flatMap tierP := by
    have e : ts.flatMap tierP = (ts.take at_).flatMap tierP ++ (ts.drop at_).flatMap tierP := by rw [← List.flatMap_append, List.take_append_drop]
    unfold printL
    rw [e, ← List.append_assoc]
  obtain ⟨a, ha⟩ := he
  obtain ⟨b, hb⟩ := print_ends nm (ts.take at_)
  have hcb := print_count nm hn (ts.take at_) (fun t ht => hf t (List.mem_of_mem_take ht))
  rw [List.length_take, Nat.min_eq_left hat] at hcb
  have h1 : (printL nm ts).take k = printL nm (ts.take at_) := by
    rw [ha, hb]
    refine prefix_one (S := printL nm ts) ⟨(printL nm ts).drop k, by rw [← ha, List.take_append_drop]⟩ ⟨(ts.drop at_).flatMap tierP, by rw [← hb]; exact hsplit⟩ ?_
    rw [← ha, ← hb, hc, hcb]
  refine ⟨h1, ?_⟩
  have h2 := List.take_append_drop k (printL nm ts)
  rw [h1] at h2
  exact List.append_cancel_left (h2.trans hsplit)
end Go.Proofs.YtnnamhomapagiaaDoor
