/-
  What a policy's reader holds; (*policy.lines).head, tier.
-/
import Derived.Test.YtnnamhomapagiaaGreatDoorWordLineOfP
import Derived.Test.YtnnamhomapagiaaGreatDoorPolNumber
namespace Go.Proofs.YtnnamhomapagiaaGreatDoor
open Go.RowKit

theorem ownBlock_ne_k {w : World} {B : Nat} {e T : TypeId} {k : Nat} {v : Value} {n : Nat} {xs : List Value} {b : Nat} {cs : Array Value} {fr : Nat × Nat} (hown : w.ownsRow B e k v n xs) (hb : w.heap[b]? = some (.cells cs T fr)) (hTe : T ≠ e) : v.ownBlock ≠ some b := by
  rcases hown.2 with ⟨rfl, _⟩ | ⟨g, cap, cur, rfl, _, hg, _⟩
  · simp [Value.ownBlock]
  · intro h
    simp only [Value.ownBlock, Option.some.injEq] at h
    subst h
    rw [hg] at hb
    simp only [Option.some.injEq, Obj.cells.injEq] at hb
    exact hTe hb.2.1.symm
/-- The reader in block gl: its words (at a), the name so far, the tiers so far. -/
structure PS (w1 w : World) (g gl a : Nat) (ws : List Wd) (nm : ByteArray) (v : Value) (ts : List Ti) : Prop where
  base : WordsAt w1 g 0 ws
  mem : LineMem w1 g a ws w
  bx : Bx w gl 89 #[.pointer (some ⟨g, 0, none⟩), .string nm, v]
  own : w.ownsRow w1.heap.size 49 4 v ts.length (ts.flatMap Ti.cells)
  gge : w1.heap.size ≤ gl
  ok : ∀ t ∈ ts, t.Ok
  few : ts.length ≤ 5
  size : nm.size ≤ 4000
section
variable {w1 w w' : World} {g gl a a' : Nat} {ws : List Wd} {nm nm' : ByteArray} {v v' : Value} {ts ts' : List Ti}
theorem PS.ne (h : PS w1 w g gl a ws nm v ts) : v.ownBlock ≠ some gl := ownBlock_ne_k h.own h.bx.blk (by decide)
theorem PS.glt (h : PS w1 w g gl a ws nm v ts) : g < gl := Nat.lt_of_lt_of_le h.base.lt h.gge
theorem PS.below (h : PS w1 w g gl a ws nm v ts) (hb : Below w.heap.size w w') : PS w1 w' g gl a ws nm v ts :=
  ⟨h.base, h.mem.grown h.base (grown_of_below hb none) (fun k e => by cases e), h.bx.below hb, own_below h.own hb, h.gge, h.ok, h.few, h.size⟩
theorem PS.line (h : PS w1 w g gl a ws nm v ts) (hl : LineMem w g a' ws w') : PS w1 w' g gl a' ws nm v ts :=
  ⟨h.base, ⟨hl.at_, grown_trans' h.mem.gr hl.gr, hl.k1.trans h.mem.k1, hl.k2.trans h.mem.k2⟩, h.bx.grown hl.gr (fun e => by injection e with e; have := h.glt; omega),
    h.own.kept hl.gr (by
      cases hv : v.ownBlock with
      | none => exact .inl rfl
      | some k => exact .inr fun e => by injection e with e; have := (h.own.lt k hv).1; have := h.base.lt; omega), h.gge, h.ok, h.few, h.size⟩
theorem PS.named (h : PS w1 w g gl a ws nm v ts) (hs : nm'.size ≤ 4000) : PS w1 (w.setCell ⟨gl, 1, none⟩ (.string nm')) g gl a ws nm' v ts :=
  ⟨h.base, h.mem.set h.base (p := ⟨gl, 1, none⟩) h.gge _, by simpa using h.bx.set 1 (.string nm'), own_far h.own (fun k hk e => h.ne (by rw [hk, e])) _, h.gge, h.ok, h.few, hs⟩
theorem PS.put (h : PS w1 w g gl a ws nm v ts) (hg : w.grownBy w' v.ownBlock) (ho : w'.ownsRow w1.heap.size 49 4 v' ts'.length (ts'.flatMap Ti.cells)) (hok : ∀ t ∈ ts', t.Ok) (hfew : ts'.length ≤ 5) :
    PS w1 (w'.setCell ⟨gl, 2, none⟩ v') g gl a ws nm v' ts' := by
  have hbx := h.bx.grown hg (fun e => h.ne e.symm)
  have hne : v'.ownBlock ≠ some gl := ownBlock_ne_k ho hbx.blk (by decide)
  exact ⟨h.base, (h.mem.grown h.base hg (fun k hk => (h.own.lt k hk).1)).set h.base (p := ⟨gl, 2, none⟩) h.gge _, by simpa using hbx.set 2 v',
    own_far ho (fun k hk e => hne (by rw [hk, e])) _, h.gge, hok, hfew, h.size⟩
end
/-- Words that lie in a row. -/
structure WL (w : World) (b off : Nat) (l : List Wd) : Prop where
  lt : b < w.heap.size
  at_ : ∀ j u, (wrow l)[j]? = some u → w.cell? ⟨b, off + j, none⟩ = some u
theorem WL.below {w w' : World} {b off : Nat} {l : List Wd} (h : WL w b off l) (hb : Below w.heap.size w w') : WL w' b off l :=
  ⟨Nat.lt_of_lt_of_le h.lt hb.size, fun j u hu => (hb.cell (p := ⟨b, off + j, none⟩) h.lt).trans (h.at_ j u hu)⟩
theorem WL.text {w : World} {b off : Nat} {l : List Wd} (h : WL w b off l) (j : Nat) (hj : j < l.length) : w.cell? ⟨b, off + j * 3, none⟩ = some (.string ⟨(txt (txts l) j).toArray⟩) := by
  rw [txt_at hj]; exact h.at_ _ _ (wrow_get l j hj).1
theorem lineOf_hd (a : Nat) (ws : List Wd) : lineOf a ws = lineHd (ws.drop a) := by
  unfold lineOf lineHd
  by_cases h : a < ws.length
  · rw [List.getElem?_eq_getElem h, List.drop_eq_getElem_cons h]
  · rw [List.getElem?_eq_none (by omega), List.drop_of_length_le (by omega)]
theorem txts_len (l : List Wd) : (txts l).length = l.length := by simp [txts]
theorem toList_mk (l : List UInt8) : (⟨l.toArray⟩ : ByteArray).toList = l := by rw [ByteArray.toList_eq]
theorem lineHd_sub (l : List Wd) : ∀ x ∈ lineHd l, x ∈ l := by
  cases l with
  | nil => simp [lineHd]
  | cons x r => exact fun y hy => (List.takeWhile_sublist (fun y => decide (y.line = x.line))).subset (show y ∈ (x :: r).takeWhile (fun y => decide (y.line = x.line)) from hy)
theorem txt_len {l : List Wd} {n : Nat} (h : ∀ x ∈ l, x.text.length ≤ n) (i : Nat) : (txt (txts l) i).length ≤ n := by
  by_cases hi : i < l.length
  · rw [txt_at hi]; exact h _ (List.getElem_mem hi)
  · unfold txt txts
    rw [List.getD_eq_getElem?_getD, List.getElem?_eq_none (by simpa using hi)]; simp
set_option maxRecDepth 100000 in
set_option maxHeartbeats 2000000 in
theorem head_any (w1 w : World) (g gl a : Nat) (ws : List Wd) (nm : ByteArray) (v : Value) (ts : List Ti) (h : PS w1 w g gl a ws nm v ts) (hsz : ∀ x ∈ ws, x.text.length ≤ 4000) :
    Calls Tryz.prog 67 #[.pointer (some ⟨gl, 0, none⟩)] w fun e w' => e = .returned (.bool (headOk (txts (lineOf a ws)))) ∧ ∃ nm', PS w1 w' g gl (a + (lineOf a ws).length) ws nm' v ts ∧ (headOk (txts (lineOf a ws)) = true → nm' = ⟨(txt (txts (lineOf a ws)) 1).toArray⟩) := by
  have c0 := h.bx.at_ 0 rfl
  have HL := Lib.hid (lineOf_any w g a ws h.mem.at_)
  have hsz' : ∀ x ∈ lineOf a ws, x.text.length ≤ 4000 := fun x hx => hsz x (by rw [lineOf_hd] at hx; exact List.mem_of_mem_drop (lineHd_sub _ x hx))
  have HS := Lib.hid (txt_len hsz')
  clear hsz hsz'
  obtain ⟨l, hl⟩ : ∃ l, lineOf a ws = l := ⟨_, rfl⟩
  rw [hl] at HL HS ⊢
  clear hl
  by_cases h2 : l.length = 2
  rotate_left
  · have HF := Lib.hid (show headOk (txts l) = false from by unfold headOk; rw [txts_len, decide_eq_false h2]; rfl)
    have h2' : ((l.length : Int) != 2) = true := bne_iff_ne.2 (by omega)
    clear h2
    go_enter Tryz.func67, Tryz.ntmps67
    go_wp2_with (go_at_call 94; refine HL.out.mono ?_; rintro e w2 ⟨vl, rfl, hown, hmem⟩; obtain ⟨A, c, rfl, hlc, hsl⟩ := own_slice hown)
    go_ret
    exact ⟨by rw [HF.out]; rfl, nm, h.line hmem, fun e => by rw [HF.out] at e; cases e⟩
  · have h2' : ((l.length : Int) != 2) = false := by rw [h2]; rfl
    obtain ⟨t0, ht0⟩ : ∃ t0, t0 = txt (txts l) 0 := ⟨_, rfl⟩
    obtain ⟨t1, ht1⟩ : ∃ t1, t1 = txt (txts l) 1 := ⟨_, rfl⟩
    have hs1 := HS.out 1
    rw [← ht1] at hs1 ⊢
    have HT0 := Lib.hid ht0
    have HT1 := Lib.hid ht1
    have HH := Lib.hid (show headOk (txts l) = (t0 == sPolicy) from by unfold headOk; rw [txts_len, decide_eq_true h2, HT0.out]; rfl)
    have HL2 := Lib.hid h2
    have hne : wrow l ≠ [] := fun e => by have := congrArg List.length e; rw [wrow_len, h2] at this; simp at this
    have hsb : (⟨t1.toArray⟩ : ByteArray).size ≤ 4000 := by rw [← len_toList, toList_mk]; exact hs1
    have g1 : (1 : Int) < (l.length : Int) := by omega
    have g0 : (0 : Int) < (l.length : Int) := by omega
    clear ht0 ht1 h2
    cases hq : (t0 == sPolicy)
    · rw [hq] at HH
      have he : (t0 == ([112, 111, 108, 105, 99, 121] : List UInt8)) = false := hq
      clear hq
      go_enter Tryz.func67, Tryz.ntmps67
      go_wp2_with (first
        | (go_at_call 94; refine HL.out.mono ?_; rintro e w2 ⟨vl, rfl, hown, hmem⟩; obtain ⟨A, c, rfl, hlc, hsl⟩ := own_slice hown
           obtain ⟨b, off, rfl, hb, hc⟩ := hsl.at_ hne
           have W2 : WL w2 b off l := ⟨hb, hc⟩
           have x0 := W2.text 0 (by have := HL2.out; omega)
           rw [Nat.zero_mul, Nat.add_zero, ← HT0.out] at x0
           have P2 := Lib.hid (h.line hmem)
           clear hc hsl hmem hown W2))
      go_ret
      exact ⟨by rw [HH.out]; rfl, nm, P2.out, fun e => by rw [HH.out] at e; cases e⟩
    · rw [hq] at HH
      have he : (t0 == ([112, 111, 108, 105, 99, 121] : List UInt8)) = true := hq
      clear hq
      go_enter Tryz.func67, Tryz.ntmps67
      go_wp2_with (first
        | (go_at_call 94; refine HL.out.mono ?_; rintro e w2 ⟨vl, rfl, hown, hmem⟩; obtain ⟨A, c, rfl, hlc, hsl⟩ := own_slice hown
           obtain ⟨b, off, rfl, hb, hc⟩ := hsl.at_ hne
           have W2 : WL w2 b off l := ⟨hb, hc⟩
           have x0 := W2.text 0 (by have := HL2.out; omega)
           have x1 := W2.text 1 (by have := HL2.out; omega)
           rw [Nat.zero_mul, Nat.add_zero, ← HT0.out] at x0
           rw [Nat.one_mul, ← HT1.out] at x1
           have P2 := Lib.hid (h.line hmem)
           clear hc hsl hmem hown W2)
        | (go_at_call 92; refine (sclone_any _ _ (by omega)).mono ?_; rintro e w3 ⟨rfl, hb3⟩
           have P3 := Lib.hid (P2.out.below hb3)
           have c1 := P3.out.bx.at_ 1 rfl
           have f1 := P3.out.bx.free 1))
      go_ret
      exact ⟨by rw [HH.out]; rfl, _, P3.out.named hsb, fun _ => rfl⟩
end Go.Proofs.YtnnamhomapagiaaGreatDoor
