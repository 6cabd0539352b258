/-
  (*policy.lines).tier: a tier's line.
-/
import Derived.Test.YtnnamhomapagiaaGreatDoorPolHead
import Derived.Deep.DeepCutAuto
import Derived.Deep.RegionHeld3
import Derived.Deep.RegionLaw
namespace Go.Proofs.YtnnamhomapagiaaGreatDoor
open Go.ChangeShapes Go.WideShapes Go.ChangeAt Go.RowKit Go.Deep

theorem num_at (l : List Wd) (i : Nat) (hi : i + 1 < l.length) (b off o n c : Nat) (what : ByteArray) (wl : List UInt8) (hwl : what.toList = wl) (w : World) (hn : 2 ≤ n) (ho : o = off + i * 3) (W : WL w b off l) :
    Calls Tryz.prog 95 #[.slice (some ⟨b, o, none⟩) n c, .string what] w fun e w' => e = .returned (.tuple #[.int .i64 (numAt (txts l) i), .bool (numOk (txts l) i wl)]) ∧ w = w' := by
  subst ho hwl
  have h1 := W.text (i + 1) hi
  rw [show off + (i + 1) * 3 = off + i * 3 + 3 from by omega] at h1
  have h := num_any b (off + i * 3) n c _ _ what w hn (W.text i (by omega)) h1
  rw [toList_mk] at h
  unfold whatB at h
  rw [toList_mk] at h
  exact h
theorem bytes_every : (⟨#[101, 118, 101, 114, 121]⟩ : ByteArray).toList = sEvery := by rw [ByteArray.toList_eq]; rfl
theorem bytes_keep : (⟨#[107, 101, 101, 112]⟩ : ByteArray).toList = sKeep := by rw [ByteArray.toList_eq]; rfl
theorem bytes_shards : (⟨#[115, 104, 97, 114, 100, 115]⟩ : ByteArray).toList = sShards := by rw [ByteArray.toList_eq]; rfl
theorem cell_four_new (w : World) (T : TypeId) (a b c d : Value) : ∀ j u, [a, b, c, d][j]? = some u → (w.alloc (.cells #[a, b, c, d] T)).cell? ((⟨w.heap.size, 0, none⟩ : Addr).add j) = some u := by
  intro j u hj
  match j, hj with
  | 0, hj => simp at hj; subst hj; simp [Addr.add]
  | 1, hj => simp at hj; subst hj; simp [Addr.add]
  | 2, hj => simp at hj; subst hj; simp [Addr.add]
  | 3, hj => simp at hj; subst hj; simp [Addr.add]
/-- What the statement that lays a tier reads. -/
structure TS (w : World) (gl : Nat) (p : Value) (nm : ByteArray) (v : Value) (b off : Nat) (tb : ByteArray) : Prop where
  bx : Bx w gl 89 #[p, .string nm, v]
  lt : b < w.heap.size
  at_ : w.cell? ⟨b, off + 3, none⟩ = some (.string tb)
section
variable {w w' : World} {gl : Nat} {p : Value} {nm : ByteArray} {v : Value} {b off : Nat} {tb : ByteArray}
theorem TS.below (h : TS w gl p nm v b off tb) (hb : Below w.heap.size w w') : TS w' gl p nm v b off tb := ⟨h.bx.below hb, Nat.lt_of_lt_of_le h.lt hb.size, (hb.cell (p := ⟨b, off + 3, none⟩) h.lt).trans h.at_⟩
theorem TS.alloc (h : TS w gl p nm v b off tb) (o : Obj) : TS (w.alloc o) gl p nm v b off tb := h.below ((Below.refl _ _).alloc (Nat.le_refl _) o)
theorem TS.grown (h : TS w gl p nm v b off tb) {row : Option Nat} (hg : w.grownBy w' row) (h1 : some gl ≠ row) (h2 : some b ≠ row) : TS w' gl p nm v b off tb :=
  ⟨h.bx.grown hg h1, Nat.lt_of_lt_of_le h.lt hg.size, hg.cell h.at_ h2⟩
theorem TS.full (h : TS w gl p nm v b off tb) : TS w gl p nm v b off tb ∧ w.cell? ⟨gl, 2, none⟩ = some v ∧ w.frozen? ⟨gl, 2, none⟩ = false ∧ w.cell? ⟨b, off + 3, none⟩ = some (.string tb) := ⟨h, h.bx.at_ 2 rfl, h.bx.free 2, h.at_⟩
end
theorem ok_snoc {ts : List Ti} {t : Ti} (h : ∀ x ∈ ts, x.Ok) (ht : t.Ok) : ∀ x ∈ ts ++ [t], x.Ok := by
  intro x hx
  rcases List.mem_append.1 hx with hx | hx
  · exact h x hx
  · rw [List.mem_singleton.1 hx]; exact ht
theorem tierT_ok {l : List Wd} (h : ∀ i, (txt (txts l) i).length ≤ 4000) : (tierT (txts l)).Ok :=
  ⟨by show (⟨(txt (txts l) 1).toArray⟩ : ByteArray).size ≤ maxLen; rw [← len_toList, toList_mk]; have := h 1; unfold maxLen; omega, numAt_bd _ _, numAt_bd _ _, numAt_bd _ _⟩
theorem own_ne_word {w : World} {B B2 b off n c m : Nat} {v : Value} {xs ys : List Value} (h : w.ownsRow B 49 4 v m xs) (k : w.ownsRow B2 92 3 (.slice (some ⟨b, off, none⟩) n c) n ys) : some b ≠ v.ownBlock := by
  rcases k.2 with ⟨e, _⟩ | ⟨g, cap, cur, e, _, hg, _⟩
  · cases e
  · cases e
    exact (ownBlock_ne_k h hg (by decide)).symm
set_option maxRecDepth 100000 in
set_option maxHeartbeats 4000000 in
theorem tierL_any (w1 w : World) (g gl a : Nat) (ws : List Wd) (nm : ByteArray) (v : Value) (ts : List Ti) (h : PS w1 w g gl a ws nm v ts) (hsz : ∀ x ∈ ws, x.text.length ≤ 4000) :
    Calls Tryz.prog 68 #[.pointer (some ⟨gl, 0, none⟩)] w fun e w' => e = .returned (.bool (tierOk (txts (lineOf a ws)) ts.length)) ∧ ∃ v' ts', PS w1 w' g gl (a + (lineOf a ws).length) ws nm v' ts' ∧ (tierOk (txts (lineOf a ws)) ts.length = true → ts' = ts ++ [tierT (txts (lineOf a ws))]) := by
  have c0 := h.bx.at_ 0 rfl
  have HL := Lib.hid (lineOf_any w g a ws h.mem.at_)
  have hsz' : ∀ x ∈ lineOf a ws, x.text.length ≤ 4000 := fun x hx => hsz x (by rw [lineOf_hd] at hx; exact List.mem_of_mem_drop (lineHd_sub _ x hx))
  have HS := Lib.hid (txt_len hsz')
  clear hsz hsz'
  obtain ⟨l, hl⟩ : ∃ l, lineOf a ws = l := ⟨_, rfl⟩
  rw [hl] at HL HS ⊢
  clear hl
  by_cases h8 : l.length = 8
  rotate_left
  · have HF := Lib.hid (show tierOk (txts l) ts.length = false from by unfold tierOk; rw [txts_len, decide_eq_false h8]; rfl)
    have h8' : ((l.length : Int) != 8) = true := bne_iff_ne.2 (by omega)
    clear h8
    go_enter Tryz.func68, Tryz.ntmps68
    go_wp2_with (go_at_call 94; refine HL.out.mono ?_; rintro e w2 ⟨vl, rfl, hown, hmem⟩; obtain ⟨A, c, rfl, hlc, hsl⟩ := own_slice hown)
    go_ret
    exact ⟨by rw [HF.out]; rfl, v, ts, h.line hmem, fun e => by rw [HF.out] at e; cases e⟩
  obtain ⟨t0, ht0⟩ : ∃ t0, t0 = txt (txts l) 0 := ⟨_, rfl⟩
  have HT0 := Lib.hid ht0
  have HH := Lib.hid (show tierOk (txts l) ts.length = (((t0 == sTier) && !decide (ts.length = 5)) && (numOk (txts l) 2 sEvery && (numOk (txts l) 4 sKeep && numOk (txts l) 6 sShards))) from by unfold tierOk; rw [txts_len, decide_eq_true h8, HT0.out]; rfl)
  have HL8 := Lib.hid h8
  have hne : wrow l ≠ [] := fun e => by have := congrArg List.length e; rw [wrow_len, h8] at this; simp at this
  rw [h8] at HL ⊢
  clear ht0
  cases hq : (t0 == sTier)
  · have HF := Lib.hid (show tierOk (txts l) ts.length = false from by rw [HH.out, hq]; rfl)
    have he : (t0 == ([116, 105, 101, 114] : List UInt8)) = false := hq
    clear hq HH h8
    go_enter Tryz.func68, Tryz.ntmps68
    go_wp2_with (first
      | (go_at_call 94; refine HL.out.mono ?_; rintro e w2 ⟨vl, rfl, hown, hmem⟩; obtain ⟨A, c, rfl, hlc, hsl⟩ := own_slice hown
         obtain ⟨b, off, rfl, hb, hc⟩ := hsl.at_ hne
         have W2 : WL w2 b off l := ⟨hb, hc⟩
         have x0 := W2.text 0 (by have := HL8.out; omega)
         rw [Nat.zero_mul, Nat.add_zero, ← HT0.out] at x0
         have P2 := Lib.hid (h.line hmem)
         clear hc hsl hmem hown W2))
    go_ret
    exact ⟨by rw [HF.out]; rfl, v, ts, P2.out, fun e => by rw [HF.out] at e; cases e⟩
  have he : (t0 == ([116, 105, 101, 114] : List UInt8)) = true := hq
  obtain ⟨Av, cv, rfl, _, _⟩ := own_slice h.own
  by_cases h5 : ts.length = 5
  · have HF := Lib.hid (show tierOk (txts l) ts.length = false from by rw [HH.out, hq, decide_eq_true h5]; rfl)
    have h5' : ((ts.length : Int) == 5) = true := beq_iff_eq.2 (by omega)
    clear hq HH h8 h5
    go_enter Tryz.func68, Tryz.ntmps68
    go_wp2_with (first
      | (go_at_call 94; refine HL.out.mono ?_; rintro e w2 ⟨vl, rfl, hown, hmem⟩; obtain ⟨A, c, rfl, hlc, hsl⟩ := own_slice hown
         obtain ⟨b, off, rfl, hb, hc⟩ := hsl.at_ hne
         have W2 : WL w2 b off l := ⟨hb, hc⟩
         have x0 := W2.text 0 (by have := HL8.out; omega)
         rw [Nat.zero_mul, Nat.add_zero, ← HT0.out] at x0
         have P2 := Lib.hid (h.line hmem)
         have c2 := P2.out.bx.at_ 2 rfl
         clear hc hsl hmem hown W2))
    go_ret
    exact ⟨by rw [HF.out]; rfl, _, ts, P2.out, fun e => by rw [HF.out] at e; cases e⟩
  have HF := Lib.hid (show tierOk (txts l) ts.length = (numOk (txts l) 2 sEvery && (numOk (txts l) 4 sKeep && numOk (txts l) 6 sShards)) from by rw [HH.out, hq, decide_eq_false h5]; rfl)
  have h5' : ((ts.length : Int) == 5) = false := beq_eq_false_iff_ne.2 (by omega)
  have hlt5 : ts.length < 5 := by have := h.few; omega
  have hs1 := HS.out 1
  have HOK := Lib.hid (tierT_ok HS.out)
  clear hq HH h8 h5
  rw [HF.out]
  obtain ⟨i0, hi, hz0, hz1, hz2⟩ := info_parts info_tier
  go_enter Tryz.func68, Tryz.ntmps68
  go_upto_region 7 with (first
    | (go_at_call 94; refine HL.out.mono ?_; rintro e w2 ⟨vl, rfl, hown, hmem⟩; obtain ⟨A, c, rfl, hlc, hsl⟩ := own_slice hown
       obtain ⟨b, off, rfl, hb, hc⟩ := hsl.at_ hne
       have W2 : WL w2 b off l := ⟨hb, hc⟩
       have x0 := W2.text 0 (by have := HL8.out; omega)
       rw [Nat.zero_mul, Nat.add_zero, ← HT0.out] at x0
       have P2 := Lib.hid (h.line hmem)
       have c2 := P2.out.bx.at_ 2 rfl
       have hc2 : 2 ≤ c := by omega
       have hc4 : 4 ≤ c := by omega
       have hc6 : 6 ≤ c := by omega
       have HW2 := Lib.hid W2
       have HNE := Lib.hid (own_ne_word P2.out.own hown)
       clear hc hsl hmem hown W2)
    | (go_at_call 95; (with_reducible refine (num_at l 2 (by have := HL8.out; omega) b off (off + 6) _ _ _ sEvery bytes_every _ (by omega) rfl HW2.out).mono ?_); rintro e w3 ⟨rfl, rfl⟩)
    | (go_at_call 95; (with_reducible refine (num_at l 4 (by have := HL8.out; omega) b off (off + 12) _ _ _ sKeep bytes_keep _ (by omega) rfl HW2.out).mono ?_); rintro e w3 ⟨rfl, rfl⟩)
    | (go_at_call 95; (with_reducible refine (num_at l 6 (by have := HL8.out; omega) b off (off + 18) _ _ _ sShards bytes_shards _ (by omega) rfl HW2.out).mono ?_); rintro e w3 ⟨rfl, rfl⟩))
  have hbD := (Below.refl w2.heap.size w2).drew
  have PD := Lib.hid (P2.out.below hbD)
  have x1 := (HW2.out.below hbD).text 1 (by have := HL8.out; omega)
  rw [Nat.one_mul] at x1
  have d2 := PD.out.bx.at_ 2 rfl
  obtain ⟨t1, ht1⟩ : ∃ t1, t1 = txt (txts l) 1 := ⟨_, rfl⟩
  rw [← ht1] at x1 hs1
  have HT1 := Lib.hid ht1
  have hsb : (⟨t1.toArray⟩ : ByteArray).size ≤ 4000 := by rw [← len_toList, toList_mk]; exact hs1
  obtain ⟨tb, htb⟩ : ∃ tb : ByteArray, tb = ⟨t1.toArray⟩ := ⟨_, rfl⟩
  rw [← htb] at x1 hsb
  have HTT := Lib.hid (show tierT (txts l) = ⟨tb, numAt (txts l) 2, numAt (txts l) 4, numAt (txts l) 6⟩ from by rw [htb, ht1]; rfl)
  obtain ⟨q1, hq1⟩ : ∃ q1, numAt (txts l) 2 = q1 := ⟨_, rfl⟩
  obtain ⟨q2, hq2⟩ : ∃ q2, numAt (txts l) 4 = q2 := ⟨_, rfl⟩
  obtain ⟨q3, hq3⟩ : ∃ q3, numAt (txts l) 6 = q3 := ⟨_, rfl⟩
  obtain ⟨B1, hB1⟩ : ∃ B1, numOk (txts l) 2 sEvery = B1 := ⟨_, rfl⟩
  obtain ⟨B2, hB2⟩ : ∃ B2, numOk (txts l) 4 sKeep = B2 := ⟨_, rfl⟩
  obtain ⟨B3, hB3⟩ : ∃ B3, numOk (txts l) 6 sShards = B3 := ⟨_, rfl⟩
  rw [hq1, hq2, hq3] at HTT
  rw [hq1, hq2, hq3, hB1, hB2, hB3]
  have HBS := Lib.hid (And.intro hB1 (And.intro hB2 hB3))
  clear x0 c0 c2 ht1 htb hq1 hq2 hq3 hB1 hB2 hB3 he h5' hne hlc hc2 hc4 hc6 HL
  have HSZ := Lib.hid (show ∀ W, Below w2.drew.heap.size w2.drew W → w1.heap.size ≤ (W.alloc (.cells #[.string tb, .int .i64 q1, .int .i64 q2, .int .i64 q3] 49)).heap.size from fun W hW => by have := hW.size; have := PD.out.mem.gr.size; simp; omega)
  have g1 : (1 : Int) < 8 := by decide
  have S0 : TS w2.drew gl (.pointer (some ⟨g, 0, none⟩)) nm (.slice Av ts.length cv) b off tb := ⟨PD.out.bx, (HW2.out.below hbD).lt, x1⟩
  have HGL := Lib.hid (show some gl ≠ (Value.slice Av ts.length cv).ownBlock from PD.out.ne.symm)
  have HONE := Lib.hid (ti_one ⟨tb, q1, q2, q3⟩)
  clear d2 x1
  have d2 := S0.bx.at_ 2 rfl
  have x1 := S0.at_
  go_region_law (first
      | (refine step_append_sl _ (by rfl) _ _ 22 (by rfl) w1.heap.size 49 i0 _ 4 40 Tryz.underlying22 hi hz0 hz1 hz2 rfl (by decide) (.slice Av ts.length cv) ts.length (ts.flatMap Ti.cells) (by rfl) (P4.out.own.alloc _) (some ⟨w4.heap.size, 0, none⟩) 1 1 (Ti.cells ⟨tb, q1, q2, q3⟩) (by rfl) rfl (Sl.new w4 49 w4.heap.size (Ti.cells ⟨tb, q1, q2, q3⟩) #[.string tb, .int .i64 q1, .int .i64 q2, .int .i64 q3] rfl rfl) HONE.out (by unfold maxLen; omega) (by omega) (HSZ.out _ hb4) ?_
         intro v' w5 hown5 hgrow5 _
         obtain ⟨A5, c5, e5, hsl5⟩ := own_sl hown5
         subst e5
         have S5 := Lib.hid ((S4.out.alloc _).bx.grown hgrow5 HGL.out)
         have d5 := S5.out.at_ 2 rfl
         have f5 := S5.out.free 2)
      | (go_simp
         go_at_call 92
         refine (sclone_any _ _ (by omega)).mono ?_
         rintro e w4 ⟨rfl, hb4⟩
         have P4 := Lib.hid (PD.out.below hb4)
         have S4 := Lib.hid (S0.below hb4)
         have d4 := S4.out.bx.at_ 2 rfl
         have d4a := (S4.out.alloc (.cells #[.string tb, .int .i64 q1, .int .i64 q2, .int .i64 q3] 49)).bx.at_ 2 rfl))
  all_goals
    have e1 : (ts ++ [(⟨tb, q1, q2, q3⟩ : Ti)]).length = ts.length + 1 := by simp
    have e2 : (ts ++ [(⟨tb, q1, q2, q3⟩ : Ti)]).flatMap Ti.cells = ts.flatMap Ti.cells ++ Ti.cells ⟨tb, q1, q2, q3⟩ := by simp
    have hok := ok_snoc h.ok HOK.out
    rw [HTT.out] at hok
    have P6 := Lib.hid ((P4.out.below ((Below.refl _ _).alloc (Nat.le_refl _) _)).put (v' := .slice A5 (ts.length + 1) c5) (ts' := ts ++ [⟨tb, q1, q2, q3⟩]) hgrow5 (by rw [e1, e2]; exact hown5) hok (by rw [e1]; omega))
    clear hown5 hgrow5 hsl5 hok
    cases B1 <;> cases B2 <;> cases B3
    all_goals
      go_wp2
      go_ret
      exact ⟨by rw [HBS.out.1, HBS.out.2.1, HBS.out.2.2]; rfl, _, _, P6.out, fun _ => by rw [HTT.out]⟩
end Go.Proofs.YtnnamhomapagiaaGreatDoor
