/-
  What is printed of a policy that may be is read as it was, whatever blanks, empty lines and remarks stand between. Plain laws on lists.
-/
import Derived.Test.YtnnamhomapagiaaGreatDoorPolLines
import Derived.Test.YtnnamhomapagiaaGreatDoorRefCheckP
namespace Go.Proofs.YtnnamhomapagiaaGreatDoor
open Go.RowKit

/-! ### Numbers -/
theorem dig_toNat {d : Nat} (h : d < 10) : (UInt8.ofNat (48 + d)).toNat = 48 + d := by
  rw [UInt8.toNat_ofNat']; omega
theorem dec_all (u : Nat) : (Lib.decDigits u).all digB = true := by
  induction u using Nat.strongRecOn with
  | _ u ih =>
    by_cases h : u < 10
    · rw [Lib.decDigits, dif_pos h]
      simp [digB]; omega
    · rw [Lib.decDigits, dif_neg h, List.all_append, ih _ (by omega)]
      simp [digB]; omega
theorem dec_num (u : Nat) : numN (Lib.decDigits u) = u := by
  induction u using Nat.strongRecOn with
  | _ u ih =>
    by_cases h : u < 10
    · rw [Lib.decDigits, dif_pos h]
      have := dig_toNat h
      simp only [numN, List.foldl_cons, List.foldl_nil, this]; omega
    · rw [Lib.decDigits, dif_neg h, numN_snoc, ih _ (by omega), dig_toNat (by omega)]; omega
theorem dec_ne (u : Nat) : Lib.decDigits u ≠ [] := by
  rw [Lib.decDigits]; split <;> simp
theorem dec_head (u : Nat) (h1 : 1 ≤ u) : (Lib.decDigits u).head? ≠ some 48 := by
  induction u using Nat.strongRecOn with
  | _ u ih =>
    by_cases h : u < 10
    · rw [Lib.decDigits, dif_pos h]
      intro e
      have e2 : UInt8.ofNat (48 + u) = 48 := by simpa using e
      have := congrArg UInt8.toNat e2
      rw [dig_toNat h] at this
      have h48 : (48 : UInt8).toNat = 48 := rfl
      omega
    · rw [Lib.decDigits, dif_neg h]
      have := ih (u / 10) (by omega) (by omega)
      cases hh : Lib.decDigits (u / 10) with
      | nil => exact absurd hh (dec_ne _)
      | cons a r => rw [hh] at this; simpa using this
theorem dec_len {u : Nat} (h : u ≤ 1000000) : (Lib.decDigits u).length ≤ 7 := by
  rw [Lib.decDigits_length]
  have big : ∀ v, Lib.nDigits v = if v < 10 then 1 else Lib.nDigits (v / 10) + 1 := fun v => by
    by_cases hv : v < 10
    · rw [if_pos hv, Lib.nDigits_small hv]
    · rw [if_neg hv, Lib.nDigits_big hv]
  rw [big]; split <;> try omega
  rw [big]; split <;> try omega
  rw [big]; split <;> try omega
  rw [big]; split <;> try omega
  rw [big]; split <;> try omega
  rw [big]; split <;> try omega
  rw [big]; split <;> omega
theorem digs_not {l : List UInt8} (h : l.all digB = true) : ∀ c ∈ l, c ≠ 45 ∧ blankB c.toNat = false ∧ c ≠ 10 ∧ c ≠ 32 ∧ c ≠ 35 ∧ okB c = true := by
  intro c hc
  have hd := List.all_eq_true.1 h c hc
  unfold digB at hd
  simp only [Bool.and_eq_true, decide_eq_true_eq] at hd
  refine ⟨?_, ?_, ?_, ?_, ?_, ?_⟩
  · rintro rfl; revert hd; decide
  · exact decide_eq_false (by omega)
  · rintro rfl; revert hd; decide
  · rintro rfl; revert hd; decide
  · rintro rfl; revert hd; decide
  · unfold okB wletterB
    rw [decide_eq_true (show 32 < (c.toNat : Int) ∧ (c.toNat : Int) < 127 by omega)]; simp
theorem itoa_pos {n : Int} (h : 1 ≤ n) : Lib.itoa n = Lib.decDigits n.toNat := by unfold Lib.itoa; rw [if_neg (by omega)]
theorem num_itoa {n : Int} (h : 1 ≤ n) (h2 : n ≤ 1000000) : numR (Lib.itoa n) = some n := by
  rw [itoa_pos h]
  have ha := dec_all n.toNat
  have hp : Lib.hasPrefix (Lib.decDigits n.toNat) [45] = false := by
    cases hh : Lib.decDigits n.toNat with
    | nil => exact absurd hh (dec_ne _)
    | cons a r =>
      have := (digs_not ha a (by rw [hh]; simp)).1
      show List.isPrefixOf [45] (a :: r) = false
      simp [List.isPrefixOf]
      exact fun e => this e.symm
  have ht : Lib.trimPrefix (Lib.decDigits n.toNat) [45] = Lib.decDigits n.toNat := by unfold Lib.trimPrefix; rw [hp]; rfl
  have hb : numBad (Lib.decDigits n.toNat) false = false := by
    have h3 := dec_len (u := n.toNat) (by omega)
    have h4 : 0 < (Lib.decDigits n.toNat).length := List.length_pos_iff.2 (dec_ne _)
    have h5 := dec_head n.toNat (by omega)
    unfold numBad
    rw [decide_eq_false (show ¬ (Lib.decDigits n.toNat).length = 0 by omega), decide_eq_false (show ¬ 18 < (Lib.decDigits n.toNat).length by omega), beq_eq_false_iff_ne.2 h5]; rfl
  unfold numR
  rw [ht, hp, hb, if_neg (by decide), if_pos ha, if_neg (by decide), dec_num]
  congr 1; omega

/-! ### What is printed -/
def tierP (t : Ti) : List UInt8 :=
  sTier ++ [32] ++ t.nm.toList ++ [32] ++ sEvery ++ [32] ++ Lib.itoa t.ev ++ [32] ++ sKeep ++ [32] ++ Lib.itoa t.kp ++ [32] ++ sShards ++ [32] ++ Lib.itoa t.sh ++ [10]
theorem tierP_app (t : Ti) (r : List UInt8) : tierP t ++ r = sTier ++ (32 :: (t.nm.toList ++ (32 :: (sEvery ++ (32 :: (Lib.itoa t.ev ++ (32 :: (sKeep ++ (32 :: (Lib.itoa t.kp ++ (32 :: (sShards ++ (32 :: (Lib.itoa t.sh ++ (10 :: r))))))))))))))) := by simp [tierP]
def printL (nm : List UInt8) (ts : List Ti) : List UInt8 := sPolicy ++ (32 :: (nm ++ [10])) ++ ts.flatMap tierP

/-! ### Blanks, empty lines, remarks -/
def SpG (g : List UInt8) : Prop := g = [32] ∨ g = [32, 32] ∨ g = [9] ∨ g = [32, 9, 32]
def NlG (g : List UInt8) : Prop := g = [10] ∨ g = [10, 10] ∨ g = [32, 35, 32, 120, 32, 121, 10] ∨ g = [10, 35, 32, 116, 105, 101, 114, 32, 122, 10]
inductive Exp : List UInt8 → List UInt8 → Prop
  | nil : Exp [] []
  | plain (c : UInt8) (a b : List UInt8) : c ≠ 32 → c ≠ 10 → Exp a b → Exp (c :: a) (c :: b)
  | sp (g a b : List UInt8) : SpG g → Exp a b → Exp (32 :: a) (g ++ b)
  | nl (g a b : List UInt8) : NlG g → Exp a b → Exp (10 :: a) (g ++ b)
theorem Exp.refl : ∀ l, Exp l l
  | [] => .nil
  | c :: r => by
    by_cases h1 : c = 32
    · subst h1; exact .sp [32] r r (.inl rfl) (Exp.refl r)
    · by_cases h2 : c = 10
      · subst h2; exact .nl [10] r r (.inl rfl) (Exp.refl r)
      · exact .plain c r r h1 h2 (Exp.refl r)
theorem Exp.append {a b c d : List UInt8} (h : Exp a b) (k : Exp c d) : Exp (a ++ c) (b ++ d) := by
  induction h with
  | nil => exact k
  | plain x a b h1 h2 _ ih => exact .plain x _ _ h1 h2 ih
  | sp g a b hg _ ih => rw [List.append_assoc]; exact .sp g _ _ hg ih
  | nl g a b hg _ ih => rw [List.append_assoc]; exact .nl g _ _ hg ih
theorem Exp.empty {b : List UInt8} (h : Exp [] b) : b = [] := by cases h; rfl
theorem Exp.word : ∀ (w : List UInt8) {r b : List UInt8}, (∀ c ∈ w, c ≠ 32 ∧ c ≠ 10) → Exp (w ++ r) b → ∃ b', b = w ++ b' ∧ Exp r b'
  | [], r, b, _, h => ⟨b, rfl, h⟩
  | c :: w, r, b, hw, h => by
    have hc := hw c (by simp)
    cases h with
    | plain _ _ b1 _ _ h1 =>
      obtain ⟨b', e, h2⟩ := Exp.word w (fun x hx => hw x (by simp [hx])) h1
      exact ⟨b', by rw [e]; rfl, h2⟩
    | sp => exact absurd rfl hc.1
    | nl => exact absurd rfl hc.2
theorem Exp.space {r b : List UInt8} (h : Exp (32 :: r) b) : ∃ g b', b = g ++ b' ∧ SpG g ∧ Exp r b' := by
  cases h with
  | plain _ _ _ h1 => exact absurd rfl h1
  | sp g _ b' hg h1 => exact ⟨g, b', rfl, hg, h1⟩
theorem Exp.line {r b : List UInt8} (h : Exp (10 :: r) b) : ∃ g b', b = g ++ b' ∧ NlG g ∧ Exp r b' := by
  cases h with
  | plain _ _ _ _ h2 => exact absurd rfl h2
  | nl g _ b' hg h1 => exact ⟨g, b', rfl, hg, h1⟩
theorem SpG.gap {g : List UInt8} (h : SpG g) : Gap g := by
  rcases h with rfl | rfl | rfl | rfl <;> exact ⟨by decide, by decide⟩
theorem SpG.ok {g : List UInt8} (h : SpG g) : ∀ c ∈ g, c = 10 ∨ okB c = true := by rcases h with rfl | rfl | rfl | rfl <;> decide
theorem NlG.ok {g : List UInt8} (h : NlG g) : ∀ c ∈ g, c = 10 ∨ okB c = true := by rcases h with rfl | rfl | rfl | rfl <;> decide
theorem Exp.ok {a b : List UInt8} (h : Exp a b) : (∀ c ∈ a, c = 10 ∨ okB c = true) → ∀ c ∈ b, c = 10 ∨ okB c = true := by
  induction h with
  | nil => exact fun h => h
  | plain x a b _ _ _ ih =>
    intro h c hc
    rcases List.mem_cons.1 hc with rfl | hc
    · exact h _ (by simp)
    · exact ih (fun y hy => h y (by simp [hy])) c hc
  | sp g a b hg _ ih =>
    intro h c hc
    rcases List.mem_append.1 hc with hc | hc
    · exact hg.ok c hc
    · exact ih (fun y hy => h y (by simp [hy])) c hc
  | nl g a b hg _ ih =>
    intro h c hc
    rcases List.mem_append.1 hc with hc | hc
    · exact hg.ok c hc
    · exact ih (fun y hy => h y (by simp [hy])) c hc

/-- A word of a line that counts. -/
structure Wrd (w : List UInt8) : Prop where
  plain : PlainW w
  sep : ∀ c ∈ w, c ≠ 32 ∧ c ≠ 10
  head : w.head? ≠ some 35
  ok : ∀ c ∈ w, okB c = true
theorem Wrd.of {w : List UInt8} (h : w ≠ []) (h2 : ∀ c ∈ w, blankB c.toNat = false ∧ c ≠ 10 ∧ c ≠ 32 ∧ c ≠ 35 ∧ okB c = true) : Wrd w :=
  ⟨⟨h, fun c hc => (h2 c hc).1⟩, fun c hc => ⟨(h2 c hc).2.2.1, (h2 c hc).2.1⟩, fun e => by
    cases w with
    | nil => exact h rfl
    | cons a r => simp at e; exact (h2 a (by simp)).2.2.2.1 e, fun c hc => (h2 c hc).2.2.2.2⟩
theorem wrd_policy : Wrd sPolicy := Wrd.of (by decide) (by decide)
theorem wrd_tier : Wrd sTier := Wrd.of (by decide) (by decide)
theorem wrd_every : Wrd sEvery := Wrd.of (by decide) (by decide)
theorem wrd_keep : Wrd sKeep := Wrd.of (by decide) (by decide)
theorem wrd_shards : Wrd sShards := Wrd.of (by decide) (by decide)
theorem wrd_num {n : Int} (h : 1 ≤ n) : Wrd (Lib.itoa n) := by
  rw [itoa_pos h]
  exact Wrd.of (dec_ne _) (fun c hc => (digs_not (dec_all _) c hc).2)
theorem wrd_name {l : List UInt8} (h : validB l = true) : Wrd l := by
  unfold validB lettersB at h
  simp only [Bool.and_eq_true, decide_eq_true_eq] at h
  refine Wrd.of (fun e => by subst e; simp at h) (fun c hc => ?_)
  have hl := List.all_eq_true.1 h.2 c hc
  unfold letterB at hl
  have hl' := of_decide_eq_true hl
  refine ⟨decide_eq_false (by omega), ?_, ?_, ?_, ?_⟩
  · rintro rfl; revert hl; decide
  · rintro rfl; revert hl; decide
  · rintro rfl; revert hl; decide
  · unfold okB wletterB
    rw [decide_eq_true (show 32 < (c.toNat : Int) ∧ (c.toNat : Int) < 127 by omega)]; simp
theorem remG_all : ∀ (a b : List (List UInt8)), (∀ t ∈ a, t.head? ≠ some 35) → remG (a ++ b) = a ++ remG b
  | [], _, _ => rfl
  | x :: r, b, h => by
    have hx : (x.head? != some 35) = true := bne_iff_ne.2 (h x (by simp))
    show List.takeWhile _ (x :: (r ++ b)) = _
    rw [List.takeWhile_cons, if_pos hx]
    show x :: remG (r ++ b) = _
    rw [remG_all r b (fun t ht => h t (by simp [ht]))]; rfl
/-- A line, and what stands between it and the next ones. -/
theorem nl_lines {h b : List UInt8} (hh : NlG h) (ps : List (List UInt8 × List UInt8)) (w : List UInt8) (hp : ∀ p ∈ ps, Wrd p.1 ∧ SpG p.2) (hw : Wrd w) :
    ∃ x z, linesOf ((line2 ps ++ w) ++ (h ++ b)) = x :: (z ++ linesOf b) ∧ lineG x = ps.map Prod.fst ++ [w] ∧ ∀ l ∈ z, lineG l = [] := by
  have hline : ∀ c ∈ line2 ps ++ w, c ≠ 10 := by
    intro c hc
    rcases List.mem_append.1 hc with hc | hc
    · unfold line2 at hc
      obtain ⟨p, hp1, hc⟩ := List.mem_flatMap.1 hc
      rcases List.mem_append.1 hc with hc | hc
      · exact ((hp p hp1).1.sep c hc).2
      · have hg := (hp p hp1).2.gap.blank c hc
        rintro rfl; revert hg; decide
    · exact (hw.sep c hc).2
  have hpg : ∀ p ∈ ps, PlainW p.1 ∧ Gap p.2 := fun p hq => ⟨(hp p hq).1.plain, (hp p hq).2.gap⟩
  have hheads : ∀ t ∈ ps.map Prod.fst ++ [w], t.head? ≠ some 35 := by
    intro t ht
    rcases List.mem_append.1 ht with ht | ht
    · obtain ⟨p, hq, rfl⟩ := List.mem_map.1 ht
      exact (hp p hq).1.head
    · rw [List.mem_singleton.1 ht]; exact hw.head
  have hG : lineG (line2 ps ++ w) = ps.map Prod.fst ++ [w] := by
    rw [(lineG_line ps hpg w hw.plain).1]
    have := remG_all _ [] hheads
    rw [List.append_nil] at this
    rw [this]; simp [remG]
  have hno : ∀ l ∈ ([[]] : List (List UInt8)), lineG l = [] := by decide
  rcases hh with rfl | rfl | rfl | rfl
  · exact ⟨_, [], by rw [show ([10] : List UInt8) ++ b = 10 :: b from rfl, linesOf_cut _ _ hline]; rfl, hG, by simp⟩
  · refine ⟨_, [[]], ?_, hG, hno⟩
    rw [show ([10, 10] : List UInt8) ++ b = 10 :: 10 :: b from rfl, linesOf_cut _ _ hline]
    rw [show (10 : UInt8) :: b = [] ++ 10 :: b from rfl, linesOf_cut _ _ (by simp)]; rfl
  · refine ⟨(line2 ps ++ w) ++ [32, 35, 32, 120, 32, 121], [], ?_, ?_, by simp⟩
    · rw [show (line2 ps ++ w) ++ (([32, 35, 32, 120, 32, 121, 10] : List UInt8) ++ b) = ((line2 ps ++ w) ++ [32, 35, 32, 120, 32, 121]) ++ 10 :: b from by simp]
      refine linesOf_cut _ _ (fun c hc => ?_)
      rcases List.mem_append.1 hc with hc | hc
      · exact hline c hc
      · exact (by decide : ∀ c ∈ ([32, 35, 32, 120, 32, 121] : List UInt8), c ≠ 10) c hc
    · have e : (line2 ps ++ w) ++ [32, 35, 32, 120, 32, 121] = line2 (ps ++ [(w, [32]), ([35], [32]), ([120], [32])]) ++ [121] := by simp [line2]
      rw [e, (lineG_line _ (fun p hq => ?_) [121] ⟨by decide, by decide⟩).1]
      · have e3 : List.map Prod.fst (ps ++ [(w, [32]), (([35] : List UInt8), ([32] : List UInt8)), ([120], [32])]) ++ [[121]] = (List.map Prod.fst ps ++ [w]) ++ [[35], [120], [121]] := by simp
        rw [e3, remG_all _ _ hheads]
        simp [remG]
      · rcases List.mem_append.1 hq with hq | hq
        · exact hpg p hq
        · simp at hq
          rcases hq with rfl | rfl | rfl
          · exact ⟨hw.plain, (⟨by decide, by decide⟩ : Gap [32])⟩
          · exact ⟨(⟨by decide, by decide⟩ : PlainW [35]), (⟨by decide, by decide⟩ : Gap [32])⟩
          · exact ⟨(⟨by decide, by decide⟩ : PlainW [120]), (⟨by decide, by decide⟩ : Gap [32])⟩
  · refine ⟨_, [[35, 32, 116, 105, 101, 114, 32, 122]], ?_, hG, ?_⟩
    · rw [show (([10, 35, 32, 116, 105, 101, 114, 32, 122, 10] : List UInt8) ++ b) = 10 :: ([35, 32, 116, 105, 101, 114, 32, 122] ++ 10 :: b) from rfl, linesOf_cut _ _ hline, linesOf_cut _ _ (by decide)]; rfl
    · decide
theorem tiersL_skip (nm : List UInt8) : ∀ (z L : List (List UInt8)) (n : Int) (acc : List Ti), (∀ l ∈ z, lineG l = []) → tiersL nm n (z ++ L) acc = tiersL nm (n + (z.length : Nat)) L acc
  | [], L, n, acc, _ => by simp
  | l :: r, L, n, acc, h => by
    show tiersL nm n (l :: (r ++ L)) acc = _
    rw [tiersL, if_pos (h l (by simp)), tiersL_skip nm r L (n + 1) acc (fun x hx => h x (by simp [hx]))]
    congr 1; simp; omega
structure Ti.Fine (t : Ti) : Prop where
  nm : validB t.nm.toList = true
  ev : 1 ≤ t.ev ∧ t.ev ≤ 1000000
  kp : 1 ≤ t.kp ∧ t.kp ≤ 1000000
  sh : 1 ≤ t.sh ∧ t.sh ≤ 8
theorem tier_words (t : Ti) (h : t.Fine) (n : Nat) (hn : n < 5) : tierOk [sTier, t.nm.toList, sEvery, Lib.itoa t.ev, sKeep, Lib.itoa t.kp, sShards, Lib.itoa t.sh] n = true ∧ tierT [sTier, t.nm.toList, sEvery, Lib.itoa t.ev, sKeep, Lib.itoa t.kp, sShards, Lib.itoa t.sh] = t := by
  have e1 := num_itoa h.ev.1 h.ev.2
  have e2 := num_itoa h.kp.1 h.kp.2
  have e3 := num_itoa h.sh.1 (by have := h.sh.2; omega)
  constructor
  · unfold tierOk numOk txt
    simp [e1, e2, e3]; omega
  · unfold tierT numAt txt
    simp [e1, e2, e3]
    rw [ByteArray.toList_eq]
theorem tiers_said (nm : List UInt8) : ∀ (ts : List Ti) (b : List UInt8) (n : Int) (acc : List Ti), (∀ t ∈ ts, t.Fine) → acc.length + ts.length ≤ 5 → Exp (ts.flatMap tierP) b → tiersL nm n (linesOf b) acc = .good nm (acc ++ ts)
  | [], b, n, acc, _, _, h => by
    rw [Exp.empty h]
    show tiersL nm n [[]] acc = _
    rw [tiersL, if_pos (by decide), tiersL]; simp
  | t :: r, b, n, acc, hf, hl, h => by
    have ht := hf t (by simp)
    rw [List.flatMap_cons, tierP_app] at h
    obtain ⟨b1, e1_, h1_⟩ := Exp.word _ wrd_tier.sep h
    subst e1_
    obtain ⟨g1, b2, e2_, G1, h2_⟩ := Exp.space h1_
    subst e2_
    obtain ⟨b3, e3_, h3_⟩ := Exp.word _ (wrd_name ht.nm).sep h2_
    subst e3_
    obtain ⟨g2, b4, e4_, G2, h4_⟩ := Exp.space h3_
    subst e4_
    obtain ⟨b5, e5_, h5_⟩ := Exp.word _ wrd_every.sep h4_
    subst e5_
    obtain ⟨g3, b6, e6_, G3, h6_⟩ := Exp.space h5_
    subst e6_
    obtain ⟨b7, e7_, h7_⟩ := Exp.word _ (wrd_num ht.ev.1).sep h6_
    subst e7_
    obtain ⟨g4, b8, e8_, G4, h8_⟩ := Exp.space h7_
    subst e8_
    obtain ⟨b9, e9_, h9_⟩ := Exp.word _ wrd_keep.sep h8_
    subst e9_
    obtain ⟨g5, b10, e10_, G5, h10_⟩ := Exp.space h9_
    subst e10_
    obtain ⟨b11, e11_, h11_⟩ := Exp.word _ (wrd_num ht.kp.1).sep h10_
    subst e11_
    obtain ⟨g6, b12, e12_, G6, h12_⟩ := Exp.space h11_
    subst e12_
    obtain ⟨b13, e13_, h13_⟩ := Exp.word _ wrd_shards.sep h12_
    subst e13_
    obtain ⟨g7, b14, e14_, G7, h14_⟩ := Exp.space h13_
    subst e14_
    obtain ⟨b15, e15_, h15_⟩ := Exp.word _ (wrd_num ht.sh.1).sep h14_
    subst e15_
    obtain ⟨g8, b16, e16_, G8, h16_⟩ := Exp.line h15_
    subst e16_
    have key := nl_lines (b := b16) G8 [(sTier, g1), (t.nm.toList, g2), (sEvery, g3), (Lib.itoa t.ev, g4), (sKeep, g5), (Lib.itoa t.kp, g6), (sShards, g7)] (Lib.itoa t.sh) (fun p hp => by
      simp only [List.mem_cons, List.not_mem_nil, or_false] at hp
      rcases hp with rfl | rfl | rfl | rfl | rfl | rfl | rfl
      · exact ⟨wrd_tier, G1⟩
      · exact ⟨wrd_name ht.nm, G2⟩
      · exact ⟨wrd_every, G3⟩
      · exact ⟨wrd_num ht.ev.1, G4⟩
      · exact ⟨wrd_keep, G5⟩
      · exact ⟨wrd_num ht.kp.1, G6⟩
      · exact ⟨wrd_shards, G7⟩) (wrd_num ht.sh.1)
    obtain ⟨x, z, e, hx, hz⟩ := key
    rw [show sTier ++ (g1 ++ (t.nm.toList ++ (g2 ++ (sEvery ++ (g3 ++ (Lib.itoa t.ev ++ (g4 ++ (sKeep ++ (g5 ++ (Lib.itoa t.kp ++ (g6 ++ (sShards ++ (g7 ++ (Lib.itoa t.sh ++ (g8 ++ b16))))))))))))))) = (line2 [(sTier, g1), (t.nm.toList, g2), (sEvery, g3), (Lib.itoa t.ev, g4), (sKeep, g5), (Lib.itoa t.kp, g6), (sShards, g7)] ++ Lib.itoa t.sh) ++ (g8 ++ b16) from by simp [line2], e]
    have hx' : lineG x = [sTier, t.nm.toList, sEvery, Lib.itoa t.ev, sKeep, Lib.itoa t.kp, sShards, Lib.itoa t.sh] := hx
    simp only [List.length_cons] at hl
    obtain ⟨t1, t2⟩ := tier_words t ht acc.length (by omega)
    rw [tiersL, hx', if_neg (by simp), if_pos t1, t2, tiersL_skip nm z _ _ _ hz, tiers_said nm r b16 _ _ (fun u hu => hf u (by simp [hu])) (by simp; omega) h16_]
    simp
theorem parse_said (nm : List UInt8) (ts : List Ti) (b : List UInt8) (hn : validB nm = true) (hf : ∀ t ∈ ts, t.Fine) (hl : ts.length ≤ 5) (h : Exp (printL nm ts) b) : parseL 1 (linesOf b) = .good nm ts := by
  unfold printL at h
  simp only [List.append_assoc, List.cons_append, List.nil_append] at h
  obtain ⟨b1, e1_, h1_⟩ := Exp.word _ wrd_policy.sep h
  subst e1_
  obtain ⟨g1, b2, e2_, G1, h2_⟩ := Exp.space h1_
  subst e2_
  obtain ⟨b3, e3_, h3_⟩ := Exp.word _ (wrd_name hn).sep h2_
  subst e3_
  obtain ⟨g2, b4, e4_, G2, h4_⟩ := Exp.line h3_
  subst e4_
  obtain ⟨x, z, e, hx, hz⟩ := nl_lines (b := b4) G2 [(sPolicy, g1)] nm (fun p hp => by
    simp only [List.mem_cons, List.not_mem_nil, or_false] at hp
    subst hp
    exact ⟨wrd_policy, G1⟩) (wrd_name hn)
  rw [show sPolicy ++ (g1 ++ (nm ++ (g2 ++ b4))) = (line2 [(sPolicy, g1)] ++ nm) ++ (g2 ++ b4) from by simp [line2], e]
  have hx' : lineG x = [sPolicy, nm] := hx
  have hh : headOk [sPolicy, nm] = true := by unfold headOk txt; simp
  rw [parseL, hx', if_neg (by simp), if_pos hh]
  show tiersL nm _ _ _ = _
  rw [tiersL_skip nm z _ _ _ hz, tiers_said nm ts b4 _ [] hf (by simpa using hl) h4_]; rfl
theorem print_ok (nm : List UInt8) (ts : List Ti) (hn : validB nm = true) (hf : ∀ t ∈ ts, t.Fine) : ∀ c ∈ printL nm ts, c = 10 ∨ okB c = true := by
  have s32 : okB 32 = true := by decide
  intro c hc
  unfold printL at hc
  simp only [List.mem_append, List.mem_cons, List.not_mem_nil, or_false, List.mem_flatMap] at hc
  rcases hc with (hc | hc | hc | hc) | ⟨t, ht, hc⟩
  · exact .inr (wrd_policy.ok c hc)
  · subst hc; exact .inr s32
  · exact .inr ((wrd_name hn).ok c hc)
  · exact .inl hc
  · have hf' := hf t ht
    unfold tierP at hc
    simp only [List.mem_append, List.mem_cons, List.not_mem_nil, or_false, or_assoc] at hc
    rcases hc with hc | hc | hc | hc | hc | hc | hc | hc | hc | hc | hc | hc | hc | hc | hc | hc
    · exact .inr (wrd_tier.ok c hc)
    · subst hc; exact .inr s32
    · exact .inr ((wrd_name hf'.nm).ok c hc)
    · subst hc; exact .inr s32
    · exact .inr (wrd_every.ok c hc)
    · subst hc; exact .inr s32
    · exact .inr ((wrd_num hf'.ev.1).ok c hc)
    · subst hc; exact .inr s32
    · exact .inr (wrd_keep.ok c hc)
    · subst hc; exact .inr s32
    · exact .inr ((wrd_num hf'.kp.1).ok c hc)
    · subst hc; exact .inr s32
    · exact .inr (wrd_shards.ok c hc)
    · subst hc; exact .inr s32
    · exact .inr ((wrd_num hf'.sh.1).ok c hc)
    · exact .inl hc
/-- Of a policy that may be: what is printed, with whatever between, is read as it was. -/
theorem parse_back (nm : List UInt8) (ts : List Ti) (s : ByteArray) (hs : s.size ≤ 4000) (hn : validB nm = true) (hf : ∀ t ∈ ts, t.Fine) (hl : ts.length ≤ 5) (h : Exp (printL nm ts) s.toList) : parseT s = .good nm ts := by
  rw [parseT_is, if_neg (by omega), cutE_zero _ _ (h.ok (print_ok nm ts hn hf)), if_neg (by decide), parse_said nm ts _ hn hf hl h]
theorem check_fine {nm : List UInt8} {ts : List Ti} (h : checkR nm ts = (0, 0)) : validB nm = true ∧ 1 ≤ ts.length ∧ ts.length ≤ 5 ∧ (∀ t ∈ ts, t.Fine) ∧ ∀ i, i < ts.length → badAt ts i = false := by
  unfold checkR at h
  split at h
  · cases h
  · next hb =>
    simp only [Bool.or_eq_true, Bool.not_eq_true', decide_eq_true_eq, not_or] at hb
    cases hfd : (List.range ts.length).find? (badAt ts) with
    | some i => rw [hfd] at h; simp at h
    | none =>
      rw [List.find?_eq_none] at hfd
      have hall : ∀ i, i < ts.length → badAt ts i = false := fun i hi => by simpa using hfd i (List.mem_range.2 hi)
      refine ⟨by simpa using hb.1, by omega, by omega, fun t ht => ?_, hall⟩
      obtain ⟨i, hi, rfl⟩ := List.getElem_of_mem ht
      have hbad := hall i hi
      unfold badAt at hbad
      rw [List.getElem?_eq_getElem hi] at hbad
      simp only [Bool.or_eq_false_iff] at hbad
      have h1 := hbad.1.1
      unfold badOne at h1
      simp only [Bool.or_eq_false_iff, decide_eq_false_iff_not, Bool.not_eq_false'] at h1
      exact ⟨h1.1, by omega, by omega, by omega⟩
theorem print_len {nm : List UInt8} {ts : List Ti} (hn : validB nm = true) (hf : ∀ t ∈ ts, t.Fine) (hl : ts.length ≤ 5) : (printL nm ts).length ≤ 400 := by
  have one : ∀ t : Ti, t.Fine → (tierP t).length ≤ 65 := fun t h => by
    have hv := h.nm
    unfold validB at hv
    simp only [Bool.and_eq_true, decide_eq_true_eq] at hv
    have e1 := dec_len (u := t.ev.toNat) (by have := h.ev; omega)
    have e2 := dec_len (u := t.kp.toNat) (by have := h.kp; omega)
    have e3 := dec_len (u := t.sh.toNat) (by have := h.sh; omega)
    unfold tierP
    rw [itoa_pos h.ev.1, itoa_pos h.kp.1, itoa_pos h.sh.1]
    simp [sTier, sEvery, sKeep, sShards]; omega
  have all : ∀ l : List Ti, (∀ t ∈ l, t.Fine) → (l.flatMap tierP).length ≤ l.length * 65 := fun l => by
    induction l with
    | nil => intro _; simp
    | cons t r ih =>
      intro h
      have h1 := one t (h t (by simp))
      have h2 := ih (fun u hu => h u (by simp [hu]))
      rw [List.flatMap_cons, List.length_append, List.length_cons]; omega
  have hv := hn
  unfold validB at hv
  simp only [Bool.and_eq_true, decide_eq_true_eq] at hv
  have h1 := all ts hf
  have e : (printL nm ts).length = 8 + nm.length + (ts.flatMap tierP).length := by
    unfold printL; rw [List.length_append]; simp only [sPolicy, List.length_append, List.length_cons, List.length_nil]; omega
  omega
end Go.Proofs.YtnnamhomapagiaaGreatDoor
