/-
  policy.Parse: what is read out of a text.
-/
import Derived.Test.YtnnamhomapagiaaGreatDoorPolTier
import Derived.Test.YtnnamhomapagiaaGreatDoorWordFewC
namespace Go.Proofs.YtnnamhomapagiaaGreatDoor
open Go.ChangeShapes Go.WideShapes Go.ChangeAt Go.RowKit Go.Deep

def totW (l : List Wd) : Nat := (l.map fun x => x.text.length).sum
theorem extLast_tot (c : UInt8) : ∀ l, totW (extLast c l) ≤ totW l + 1
  | [] => by simp [extLast]
  | [x] => by simp [extLast, totW]
  | x :: y :: r => by
    have h := extLast_tot c (y :: r)
    have e1 : totW (extLast c (x :: y :: r)) = x.text.length + totW (extLast c (y :: r)) := by simp [extLast, totW]
    have e2 : totW (x :: y :: r) = x.text.length + totW (y :: r) := by simp [totW]
    omega
theorem lst_tot (n : Int) (l : List UInt8) : totW (lst n l).out ≤ l.length := by
  obtain ⟨m, rfl⟩ : ∃ m : List UInt8, l = m.reverse := ⟨l.reverse, by simp⟩
  induction m with
  | nil => simp [lst, totW]
  | cons c r ih =>
    rw [List.reverse_cons, lst_snoc]
    unfold lstep
    rw [List.length_append, List.length_singleton]
    split
    · exact Nat.le_succ_of_le ih
    · split
      · have := extLast_tot c (lst n r.reverse).out
        show totW (extLast c (lst n r.reverse).out) ≤ _
        omega
      · have e : totW ((lst n r.reverse).out ++ [⟨[c], n, ((lst n r.reverse).i : Int) + 1⟩]) = totW (lst n r.reverse).out + 1 := by simp [totW]
        show totW (_ ++ _) ≤ _
        rw [e]; omega
theorem mem_tot {x : Wd} : ∀ {l : List Wd}, x ∈ l → x.text.length ≤ totW l
  | y :: r, h => by
    have e : totW (y :: r) = y.text.length + totW r := by simp [totW]
    rcases List.mem_cons.1 h with rfl | h
    · omega
    · have := mem_tot h; omega
theorem cutW_text {m : Nat} : ∀ (ls : List (List UInt8)) (n : Int), (∀ l ∈ ls, l.length ≤ m) → ∀ x ∈ cutW n ls, x.text.length ≤ m
  | [], _, _, x, h => by simp [cutW] at h
  | y :: r, n, hl, x, h => by
    rcases List.mem_append.1 (show x ∈ lineWords n y ++ cutW (n + 1) r from h) with h | h
    · have h1 := mem_tot ((List.takeWhile_sublist _).subset h)
      have h2 := lst_tot n y
      have h3 := hl y (by simp)
      omega
    · exact cutW_text r (n + 1) (fun l hh => hl l (by simp [hh])) x h
theorem words_text (s : ByteArray) (h : s.size ≤ 4000) : ∀ x ∈ cutW 1 (linesL s), x.text.length ≤ 4000 :=
  cutW_text _ _ fun l hl => by
    obtain ⟨b, hb, rfl⟩ := List.mem_map.1 hl
    have := lines_size s b hb
    rw [len_toList]; omega
def cellA (w : World) (g : Nat) : Nat := match w.cell? ⟨g, 0, none⟩ with
  | some (.int _ a) => a.toNat
  | _ => 0
def firstN : Value → Nat
  | .bool true => 1
  | _ => 0
def ParseSays (r : Rd) (B : Nat) (e : Ending) (w' : World) : Prop := match r with
  | .bad k at_ => e = .returned (.tuple #[polV ByteArray.empty none 0 0, .int .i64 k, .int .i64 at_])
  | .good nm ts => ∃ A c, e = .returned (.tuple #[polV ⟨nm.toArray⟩ A ts.length c, .int .i64 0, .int .i64 0]) ∧ w'.ownsRow B 49 4 (.slice A ts.length c) ts.length (ts.flatMap Ti.cells) ∧ (∀ t ∈ ts, t.Ok) ∧ nm.length ≤ 4000 ∧ ts.length ≤ 5
theorem lineAt_peek (ws : List Wd) (a : Nat) (h : a < ws.length) : wline ws[a]? = lineAt (ws.drop a) := by
  rw [List.getElem?_eq_getElem h, List.drop_eq_getElem_cons h]; rfl
/-- Where the reader stands ahead of a round. -/
structure PRound (w1 wr : World) (g gl : Nat) (ws : List Wd) (first : Bool) (a : Nat) (nm : ByteArray) (v : Value) (ts : List Ti) : Prop where
  ps : PS w1 wr g gl a ws nm v ts
  one : first = true → a = 0 ∧ ts = []
  rest : first = false → ∃ f, ws.length - a ≤ f ∧ tiersR nm.toList f (ws.drop a) ts = parseW ws
theorem peek_yes (w : World) (g a : Nat) (ws : List Wd) (h : WordsAt w g a ws) (ha : a < ws.length) :
    Calls Tryz.prog 66 #[.pointer (some ⟨g, 0, none⟩)] w fun e w' => (∃ t c, e = .returned (.tuple #[.agg #[.string t, .int .i64 (lineAt (ws.drop a)), .int .i64 c], .bool true])) ∧ Below w.heap.size w w' :=
  (peek_any w g a ws h).mono fun e w' ⟨he, hb⟩ => by
    refine ⟨⟨wtext ws[a]?, wcol ws[a]?, ?_⟩, hb⟩
    rw [he, peekV_is, lineAt_peek ws a ha, decide_eq_true ha]
theorem peek_no (w : World) (g a : Nat) (ws : List Wd) (h : WordsAt w g a ws) (ha : ¬ a < ws.length) :
    Calls Tryz.prog 66 #[.pointer (some ⟨g, 0, none⟩)] w fun e w' => (∃ t l c, e = .returned (.tuple #[.agg #[.string t, .int .i64 l, .int .i64 c], .bool false])) ∧ Below w.heap.size w w' :=
  (peek_any w g a ws h).mono fun e w' ⟨he, hb⟩ => by
    refine ⟨⟨wtext ws[a]?, wline ws[a]?, wcol ws[a]?, ?_⟩, hb⟩
    rw [he, peekV_is, decide_eq_false ha]
theorem PS.cellA {w1 w : World} {g gl a : Nat} {ws : List Wd} {nm : ByteArray} {v : Value} {ts : List Ti} (h : PS w1 w g gl a ws nm v ts) : cellA w g = a := by
  unfold Go.Proofs.YtnnamhomapagiaaGreatDoor.cellA; rw [h.mem.at_.c0]; simp
theorem PS.le {w1 w : World} {g gl a : Nat} {ws : List Wd} {nm : ByteArray} {v : Value} {ts : List Ti} (h : PS w1 w g gl a ws nm v ts) : a ≤ ws.length := h.mem.at_.le
theorem PS.from_ {w0 w1 w : World} {g gl a : Nat} {ws : List Wd} {nm : ByteArray} {v : Value} {ts : List Ti} (h : PS w1 w g gl a ws nm v ts) (hb : Below w0.heap.size w0 w1) (hg : w0.heap.size ≤ g) : Below w0.heap.size w0 w :=
  hb.grown h.mem.gr hb.size (fun k hk => by injection hk with hk; omega)
theorem PS.box {w1 w : World} {g gl a r : Nat} {ws : List Wd} {nm : ByteArray} {v : Value} {ts : List Ti} {T : TypeId} {cs : Array Value} (h : PS w1 w g gl a ws nm v ts) (hr : Bx w1 r T cs) (hg : r < g) : Bx w r T cs :=
  hr.grown h.mem.gr (fun e => by injection e with e; omega)
set_option maxRecDepth 100000 in
set_option maxHeartbeats 4000000 in
theorem parse_any (s : ByteArray) (w : World) (hs : s.size ≤ maxLen) (hm : ∃ m : Int, w.cell? ⟨0, 0, none⟩ = some (.int .i64 m)) :
    Calls Tryz.prog 18 #[.string s] w fun e w' => ParseSays (parseT s) w.heap.size e w' ∧ Below w.heap.size w w' := by
  have hlt0 : 0 < w.heap.size := by obtain ⟨m, h⟩ := hm; have := block_lt_of_cell h; simpa using this
  have hb0 : Below w.heap.size w (w.alloc (.cells #[.string ByteArray.empty, .slice none 0 0] 24)) := (Below.refl _ w).alloc (Nat.le_refl _) _
  have b0 := Bx.new w 24 #[.string ByteArray.empty, .slice none 0 0]
  have hCut := cut_any s (w.alloc (.cells #[.string ByteArray.empty, .slice none 0 0] 24)) hs (hm.imp fun m h => (hb0.cell (p := ⟨0, 0, none⟩) hlt0).trans h)
  by_cases h4 : 4000 < s.size
  · have HC := Lib.hid (hCut.mono (R' := fun e w' => e = .returned (.tuple #[.pointer none, .int .i64 2, .int .i64 0]) ∧ Below (w.alloc (.cells #[.string ByteArray.empty, .slice none 0 0] 24)).heap.size (w.alloc (.cells #[.string ByteArray.empty, .slice none 0 0] 24)) w') (fun e w' ⟨hb, hc⟩ => by
      rcases hc with ⟨_, rfl⟩ | ⟨h, _⟩ | ⟨h, _⟩
      · exact ⟨rfl, hb⟩
      · omega
      · omega))
    have HF := Lib.hid (show parseT s = .bad 2 0 from by unfold parseT; rw [if_pos h4])
    clear hCut
    go_enter Tryz.func18, Tryz.ntmps18
    go_wp2_with (first
      | (go_at_call 64; refine HC.out.mono ?_; rintro e w1 ⟨rfl, hb1⟩
         have b1 := b0.below hb1
         have q0 := b1.at_ 0 rfl
         have q1 := b1.at_ 1 rfl
         have f0 := b1.free 0
         have f1 := b1.free 1))
    have X := ((b1.set 0 (.string ⟨#[]⟩)).set 1 (.slice none 0 0))
    have x0 : ((w1.setCell ⟨w.heap.size, 0, none⟩ (.string ⟨#[]⟩)).setCell ⟨w.heap.size, 1, none⟩ (.slice none 0 0)).cell? ⟨w.heap.size, 0, none⟩ = some (.string ⟨#[]⟩) := X.at_ 0 rfl
    have x1 : ((w1.setCell ⟨w.heap.size, 0, none⟩ (.string ⟨#[]⟩)).setCell ⟨w.heap.size, 1, none⟩ (.slice none 0 0)).cell? ⟨w.heap.size, 1, none⟩ = some (.slice none 0 0) := X.at_ 1 rfl
    have hfin : Below w.heap.size w ((w1.setCell ⟨w.heap.size, 0, none⟩ (.string ⟨#[]⟩)).setCell ⟨w.heap.size, 1, none⟩ (.slice none 0 0)) := ((hb0.trans (hb1.mono hb0.size)).setCell (Nat.le_refl _) _).setCell (Nat.le_refl _) _
    clear X
    generalize HW : ((w1.setCell ⟨w.heap.size, 0, none⟩ (.string ⟨#[]⟩)).setCell ⟨w.heap.size, 1, none⟩ (.slice none 0 0)) = W at x0 x1 hfin ⊢
    refine bodyPost_ret (v := .tuple #[polV ⟨#[]⟩ none 0 0, .int .i64 2, .int .i64 0]) (by simp [results, Tryz.results18, go_sem, x0, x1]) rfl ⟨?_, hfin⟩
    rw [HF.out]; rfl
  by_cases hE : cutE 1 (linesL s) ≠ 0
  · have HC := Lib.hid (hCut.mono (R' := fun e w' => e = .returned (.tuple #[.pointer none, .int .i64 22, .int .i64 (cutE 1 (linesL s))]) ∧ Below (w.alloc (.cells #[.string ByteArray.empty, .slice none 0 0] 24)).heap.size (w.alloc (.cells #[.string ByteArray.empty, .slice none 0 0] 24)) w') (fun e w' ⟨hb, hc⟩ => by
      rcases hc with ⟨h, _⟩ | ⟨_, _, rfl⟩ | ⟨_, h, _⟩
      · exact absurd h h4
      · exact ⟨rfl, hb⟩
      · exact absurd h hE))
    have HF := Lib.hid (show parseT s = .bad 22 (cutE 1 (linesL s)) from by unfold parseT; rw [if_neg h4, if_pos hE])
    clear hCut
    generalize cutE 1 (linesL s) = q at *
    go_enter Tryz.func18, Tryz.ntmps18
    go_wp2_with (first
      | (go_at_call 64; refine HC.out.mono ?_; rintro e w1 ⟨rfl, hb1⟩
         have b1 := b0.below hb1
         have q0 := b1.at_ 0 rfl
         have q1 := b1.at_ 1 rfl
         have f0 := b1.free 0
         have f1 := b1.free 1))
    have X := ((b1.set 0 (.string ⟨#[]⟩)).set 1 (.slice none 0 0))
    have x0 : ((w1.setCell ⟨w.heap.size, 0, none⟩ (.string ⟨#[]⟩)).setCell ⟨w.heap.size, 1, none⟩ (.slice none 0 0)).cell? ⟨w.heap.size, 0, none⟩ = some (.string ⟨#[]⟩) := X.at_ 0 rfl
    have x1 : ((w1.setCell ⟨w.heap.size, 0, none⟩ (.string ⟨#[]⟩)).setCell ⟨w.heap.size, 1, none⟩ (.slice none 0 0)).cell? ⟨w.heap.size, 1, none⟩ = some (.slice none 0 0) := X.at_ 1 rfl
    have hfin : Below w.heap.size w ((w1.setCell ⟨w.heap.size, 0, none⟩ (.string ⟨#[]⟩)).setCell ⟨w.heap.size, 1, none⟩ (.slice none 0 0)) := ((hb0.trans (hb1.mono hb0.size)).setCell (Nat.le_refl _) _).setCell (Nat.le_refl _) _
    clear X
    generalize HW : ((w1.setCell ⟨w.heap.size, 0, none⟩ (.string ⟨#[]⟩)).setCell ⟨w.heap.size, 1, none⟩ (.slice none 0 0)) = W at x0 x1 hfin ⊢
    refine bodyPost_ret (v := .tuple #[polV ⟨#[]⟩ none 0 0, .int .i64 22, .int .i64 q]) (by simp [results, Tryz.results18, go_sem, x0, x1]) rfl ⟨?_, hfin⟩
    rw [HF.out]; rfl
  have hE0 : cutE 1 (linesL s) = 0 := Decidable.of_not_not hE
  have HC := Lib.hid (hCut.mono (R' := fun e w' => (∃ g, (w.alloc (.cells #[.string ByteArray.empty, .slice none 0 0] 24)).heap.size ≤ g ∧ e = .returned (.tuple #[.pointer (some ⟨g, 0, none⟩), .int .i64 0, .int .i64 0]) ∧ WordsAt w' g 0 (cutW 1 (linesL s))) ∧ Below (w.alloc (.cells #[.string ByteArray.empty, .slice none 0 0] 24)).heap.size (w.alloc (.cells #[.string ByteArray.empty, .slice none 0 0] 24)) w') (fun e w' ⟨hb, hc⟩ => by
    rcases hc with ⟨h, _⟩ | ⟨_, h, _⟩ | ⟨_, _, h⟩
    · exact absurd h h4
    · exact absurd hE0 h
    · exact ⟨h, hb⟩))
  have HF := Lib.hid (show parseT s = parseW (cutW 1 (linesL s)) from by unfold parseT; rw [if_neg h4, if_neg hE])
  have HSZ := Lib.hid (words_text s (by omega))
  clear hCut hE hE0 h4
  obtain ⟨ws, hws⟩ : ∃ ws, ws = cutW 1 (linesL s) := ⟨_, rfl⟩
  rw [← hws] at HC HF HSZ
  rw [HF.out]
  clear hws HF
  go_enter Tryz.func18, Tryz.ntmps18
  go_wp2_with (first
    | (go_at_call 64; refine HC.out.mono ?_; rintro e w1 ⟨⟨g, hg, rfl, hW⟩, hb1⟩
       have b1 := b0.below hb1))
  obtain ⟨gl, hgl⟩ : ∃ gl, gl = w1.heap.size := ⟨_, rfl⟩
  have hba := (Below.refl w1.heap.size w1).alloc (Nat.le_refl _) (.cells #[.pointer (some ⟨g, 0, none⟩), .string ⟨#[]⟩, .slice none 0 0] 89)
  have P0 : PS w1 (w1.alloc (.cells #[.pointer (some ⟨g, 0, none⟩), .string ⟨#[]⟩, .slice none 0 0] 89)) g gl 0 ws ⟨#[]⟩ (.slice none 0 0) [] :=
    ⟨hW, ⟨hW.below hba, grown_of_below hba _, hba.cell (p := ⟨g, 1, none⟩) hW.lt, hba.frozen (p := ⟨g, 1, none⟩) hW.lt⟩, hgl ▸ Bx.new w1 _ _, World.ownsRow_nil _ _ _ _, Nat.le_of_eq hgl.symm, by simp, by simp, by decide⟩
  have hgw : w.heap.size < g := by simp at hg; omega
  rw [← hgl]
  generalize w1.alloc (.cells #[.pointer (some ⟨g, 0, none⟩), .string ⟨#[]⟩, .slice none 0 0] 89) = w0 at *
  clear hba hW hgl hg
  go_loopw [9, 10, 11, 12] (fun f _ _ _ wr => ∃ (fb : Bool) (a : Nat) (nm : ByteArray) (v : Value) (ts : List Ti), f = .bool fb ∧ PRound w1 wr g gl ws fb a nm v ts) (fun f _ _ _ wr => firstN f + (ws.length - cellA wr g))
  case atStart => exact ⟨true, 0, _, _, _, rfl, ⟨P0, fun _ => ⟨rfl, rfl⟩, fun e => by cases e⟩⟩
  case round =>
    clear P0
    obtain ⟨fb, a, nm, v, ts, rfl, hR⟩ := hrel
    have HR := Lib.hid hR
    have c0 := hR.ps.bx.at_ 0 rfl
    have hle := hR.ps.le
    have hfew := hR.ps.mem.at_.few
    clear hR
    cases fb
    · obtain ⟨f, hf, htr⟩ := HR.out.rest rfl
      by_cases hyes : a < ws.length
      · have hne : ws.drop a ≠ [] := fun e => by have := congrArg List.length e; simp at this; omega
        have hlen : 1 ≤ (lineOf a ws).length := by rw [lineOf_hd]; exact lineHd_len _ hne
        have HLT := Lib.hid (show a + (lineOf a ws).length > a from by omega)
        have hgt : decide ((((ws.length - a : Nat) : Int)) > 0) = true := decide_eq_true (by omega)
        cases f with
        | zero => omega
        | succ f =>
          have HT := Lib.hid (show (if tierOk (txts (lineOf a ws)) ts.length = true then tiersR nm.toList f (ws.drop (a + (lineOf a ws).length)) (ts ++ [tierT (txts (lineOf a ws))]) else .bad 22 (lineAt (ws.drop a))) = parseW ws from by
            rw [← htr, lineOf_hd, ← List.drop_drop]
            show _ = (if ws.drop a = [] then _ else _)
            rw [if_neg hne]; rfl)
          clear htr hne
          cases hok : tierOk (txts (lineOf a ws)) ts.length
          · have HF := Lib.hid (show parseW ws = .bad 22 (lineAt (ws.drop a)) from by rw [← HT.out, hok]; rfl)
            clear HT
            go_wp2_with (first
              | (go_at_call 65; refine (len_any _ _ _ _ HR.out.ps.mem.at_).mono ?_; rintro e w2 ⟨rfl, hb2⟩
                 have P2 := Lib.hid (HR.out.ps.below hb2)
                 have c0 := P2.out.bx.at_ 0 rfl)
              | (go_at_call 66; refine (peek_yes _ _ _ _ P2.out.mem.at_ hyes).mono ?_; rintro e w3 ⟨⟨tt, cc, rfl⟩, hb3⟩
                 have P3 := Lib.hid ((P2.out.below hb3).below ((Below.refl _ _).alloc (Nat.le_refl _) (.cells #[.string tt, .int .i64 (lineAt (ws.drop a)), .int .i64 cc] 92)))
                 have BW := Bx.new w3 92 #[.string tt, .int .i64 (lineAt (ws.drop a)), .int .i64 cc]
                 have z1 := BW.at_ 1 rfl)
              | (go_at_call 68; refine (tierL_any w1 _ g gl a ws nm v ts P3.out HSZ.out).mono ?_; rw [hok]; rintro e w4 ⟨rfl, v', ts', P4, hts⟩
                 have b4 := P4.box b1 (by omega)
                 have q0 := b4.at_ 0 rfl
                 have q1 := b4.at_ 1 rfl
                 have f0 := b4.free 0
                 have f1 := b4.free 1))
            have X := ((b4.set 0 (.string ⟨#[]⟩)).set 1 (.slice none 0 0))
            have x0 : ((w4.setCell ⟨w.heap.size, 0, none⟩ (.string ⟨#[]⟩)).setCell ⟨w.heap.size, 1, none⟩ (.slice none 0 0)).cell? ⟨w.heap.size, 0, none⟩ = some (.string ⟨#[]⟩) := X.at_ 0 rfl
            have x1 : ((w4.setCell ⟨w.heap.size, 0, none⟩ (.string ⟨#[]⟩)).setCell ⟨w.heap.size, 1, none⟩ (.slice none 0 0)).cell? ⟨w.heap.size, 1, none⟩ = some (.slice none 0 0) := X.at_ 1 rfl
            have hfin : Below w.heap.size w ((w4.setCell ⟨w.heap.size, 0, none⟩ (.string ⟨#[]⟩)).setCell ⟨w.heap.size, 1, none⟩ (.slice none 0 0)) := ((P4.from_ (hb0.trans (hb1.mono hb0.size)) (by omega)).setCell (Nat.le_refl _) _).setCell (Nat.le_refl _) _
            clear X
            generalize HW : ((w4.setCell ⟨w.heap.size, 0, none⟩ (.string ⟨#[]⟩)).setCell ⟨w.heap.size, 1, none⟩ (.slice none 0 0)) = W at x0 x1 hfin ⊢
            refine bodyPost_ret (v := .tuple #[polV ⟨#[]⟩ none 0 0, .int .i64 22, .int .i64 (lineAt (ws.drop a))]) (by simp [results, Tryz.results18, go_sem, x0, x1]) rfl ⟨?_, hfin⟩
            rw [HF.out]; rfl
          · have HN := Lib.hid (show ∀ ts', ts' = ts ++ [tierT (txts (lineOf a ws))] → ∃ f, ws.length - (a + (lineOf a ws).length) ≤ f ∧ tiersR nm.toList f (ws.drop (a + (lineOf a ws).length)) ts' = parseW ws from fun ts' e => ⟨f, by omega, by rw [e, ← HT.out, hok, if_pos rfl]⟩)
            clear HT
            go_wp2_with (first
              | (go_at_call 65; refine (len_any _ _ _ _ HR.out.ps.mem.at_).mono ?_; rintro e w2 ⟨rfl, hb2⟩
                 have P2 := Lib.hid (HR.out.ps.below hb2)
                 have c0 := P2.out.bx.at_ 0 rfl)
              | (go_at_call 66; refine (peek_yes _ _ _ _ P2.out.mem.at_ hyes).mono ?_; rintro e w3 ⟨⟨tt, cc, rfl⟩, hb3⟩
                 have P3 := Lib.hid ((P2.out.below hb3).below ((Below.refl _ _).alloc (Nat.le_refl _) (.cells #[.string tt, .int .i64 (lineAt (ws.drop a)), .int .i64 cc] 92)))
                 have BW := Bx.new w3 92 #[.string tt, .int .i64 (lineAt (ws.drop a)), .int .i64 cc]
                 have z1 := BW.at_ 1 rfl)
              | (go_at_call 68; refine (tierL_any w1 _ g gl a ws nm v ts P3.out HSZ.out).mono ?_; rw [hok]; rintro e w4 ⟨rfl, v', ts', P4, hts⟩
                 have P5 := Lib.hid P4))
            go_roundw
            case rel => exact ⟨false, _, _, _, _, rfl, ⟨P5.out, fun e => (by cases e), fun _ => HN.out _ (hts (by trivial))⟩⟩
            case measure => rw [P5.out.cellA, HR.out.ps.cellA]; have := HLT.out; have := P5.out.le; simp [firstN]; omega
      · have hae : a = ws.length := by omega
        have hgt : decide ((((ws.length - a : Nat) : Int)) > 0) = false := decide_eq_false (by omega)
        have HF := Lib.hid (show parseW ws = .good nm.toList ts from by
          rw [← htr, List.drop_of_length_le (by omega)]
          cases f <;> rfl)
        clear htr hae
        obtain ⟨Av, cv, rfl, _, _⟩ := own_slice HR.out.ps.own
        go_wp2_with (first
          | (go_at_call 65; refine (len_any _ _ _ _ HR.out.ps.mem.at_).mono ?_; rintro e w2 ⟨rfl, hb2⟩
             have P2 := HR.out.ps.below hb2
             have c1 := P2.bx.at_ 1 rfl
             have c2 := P2.bx.at_ 2 rfl
             have b4 := P2.box b1 (by omega)
             have q0 := b4.at_ 0 rfl
             have q1 := b4.at_ 1 rfl
             have f0 := b4.free 0
             have f1 := b4.free 1))
        have hown : ((w2.setCell ⟨w.heap.size, 0, none⟩ (.string nm)).setCell ⟨w.heap.size, 1, none⟩ (.slice Av ts.length cv)).ownsRow w.heap.size 49 4 (.slice Av ts.length cv) ts.length (ts.flatMap Ti.cells) := by
          have hlow : w.heap.size + 1 ≤ w1.heap.size := by have := b1.lt; omega
          refine own_low (own_far (own_far P2.own (fun k hk e => ?_) _) (fun k hk e => ?_) _) (by omega)
          · have := (P2.own.lt k hk).1; simp at e; omega
          · have := (P2.own.lt k hk).1; simp at e; omega
        have X := ((b4.set 0 (.string nm)).set 1 (.slice Av ts.length cv))
        have x0 : ((w2.setCell ⟨w.heap.size, 0, none⟩ (.string nm)).setCell ⟨w.heap.size, 1, none⟩ (.slice Av ts.length cv)).cell? ⟨w.heap.size, 0, none⟩ = some (.string nm) := X.at_ 0 rfl
        have x1 : ((w2.setCell ⟨w.heap.size, 0, none⟩ (.string nm)).setCell ⟨w.heap.size, 1, none⟩ (.slice Av ts.length cv)).cell? ⟨w.heap.size, 1, none⟩ = some (.slice Av ts.length cv) := X.at_ 1 rfl
        have hfin : Below w.heap.size w ((w2.setCell ⟨w.heap.size, 0, none⟩ (.string nm)).setCell ⟨w.heap.size, 1, none⟩ (.slice Av ts.length cv)) := ((P2.from_ (hb0.trans (hb1.mono hb0.size)) (by omega)).setCell (Nat.le_refl _) _).setCell (Nat.le_refl _) _
        clear X
        generalize HW : ((w2.setCell ⟨w.heap.size, 0, none⟩ (.string nm)).setCell ⟨w.heap.size, 1, none⟩ (.slice Av ts.length cv)) = W at x0 x1 hfin ⊢
        refine bodyPost_ret (v := .tuple #[polV nm Av ts.length cv, .int .i64 0, .int .i64 0]) (by simp [results, Tryz.results18, go_sem, x0, x1]) rfl ⟨?_, hfin⟩
        rw [HW] at hown
        rw [HF.out]
        exact ⟨Av, cv, by rw [show (⟨nm.toList.toArray⟩ : ByteArray) = nm from by rw [ByteArray.toList_eq]], hown, P2.ok, by rw [len_toList]; exact P2.size, P2.few⟩
    · obtain ⟨rfl, rfl⟩ := HR.out.one rfl
      have HL0 := Lib.hid (show lineOf 0 ws = lineHd ws from lineOf_hd 0 ws)
      have HD0 := Lib.hid (show ws.drop 0 = ws from rfl)
      cases hok : headOk (txts (lineOf 0 ws))
      · by_cases hyes : 0 < ws.length
        · have HF := Lib.hid (show parseW ws = .bad 22 (lineAt (ws.drop 0)) from by unfold parseW; rw [← HL0.out, hok, HD0.out]; rfl)
          go_wp2_with (first
            | (go_at_call 66; refine (peek_yes _ _ _ _ HR.out.ps.mem.at_ hyes).mono ?_; rintro e w3 ⟨⟨tt, cc, rfl⟩, hb3⟩
               have P3 := Lib.hid ((HR.out.ps.below hb3).below ((Below.refl _ _).alloc (Nat.le_refl _) (.cells #[.string tt, .int .i64 (lineAt (ws.drop 0)), .int .i64 cc] 92)))
               have BW := Bx.new w3 92 #[.string tt, .int .i64 (lineAt (ws.drop 0)), .int .i64 cc]
               have z1 := BW.at_ 1 rfl)
            | (go_at_call 67; refine (head_any w1 _ g gl 0 ws nm v [] P3.out HSZ.out).mono ?_; rw [hok]; rintro e w4 ⟨rfl, nm', P4, hnm⟩
               have b4 := P4.box b1 (by omega)
               have q0 := b4.at_ 0 rfl
               have q1 := b4.at_ 1 rfl
               have f0 := b4.free 0
               have f1 := b4.free 1))
          have X := ((b4.set 0 (.string ⟨#[]⟩)).set 1 (.slice none 0 0))
          have x0 : ((w4.setCell ⟨w.heap.size, 0, none⟩ (.string ⟨#[]⟩)).setCell ⟨w.heap.size, 1, none⟩ (.slice none 0 0)).cell? ⟨w.heap.size, 0, none⟩ = some (.string ⟨#[]⟩) := X.at_ 0 rfl
          have x1 : ((w4.setCell ⟨w.heap.size, 0, none⟩ (.string ⟨#[]⟩)).setCell ⟨w.heap.size, 1, none⟩ (.slice none 0 0)).cell? ⟨w.heap.size, 1, none⟩ = some (.slice none 0 0) := X.at_ 1 rfl
          have hfin : Below w.heap.size w ((w4.setCell ⟨w.heap.size, 0, none⟩ (.string ⟨#[]⟩)).setCell ⟨w.heap.size, 1, none⟩ (.slice none 0 0)) := ((P4.from_ (hb0.trans (hb1.mono hb0.size)) (by omega)).setCell (Nat.le_refl _) _).setCell (Nat.le_refl _) _
          clear X
          generalize HW : ((w4.setCell ⟨w.heap.size, 0, none⟩ (.string ⟨#[]⟩)).setCell ⟨w.heap.size, 1, none⟩ (.slice none 0 0)) = W at x0 x1 hfin ⊢
          refine bodyPost_ret (v := .tuple #[polV ⟨#[]⟩ none 0 0, .int .i64 22, .int .i64 (lineAt (ws.drop 0))]) (by simp [results, Tryz.results18, go_sem, x0, x1]) rfl ⟨?_, hfin⟩
          rw [HF.out]; rfl
        · have HF := Lib.hid (show parseW ws = .bad 22 1 from by
            have : ws = [] := List.eq_nil_of_length_eq_zero (by omega)
            unfold parseW; rw [← HL0.out, hok, this]; rfl)
          go_wp2_with (first
            | (go_at_call 66; refine (peek_no _ _ _ _ HR.out.ps.mem.at_ hyes).mono ?_; rintro e w3 ⟨⟨tt, ll, cc, rfl⟩, hb3⟩
               have P3 := Lib.hid ((HR.out.ps.below hb3).below ((Below.refl _ _).alloc (Nat.le_refl _) (.cells #[.string tt, .int .i64 ll, .int .i64 cc] 92))))
            | (go_at_call 67; refine (head_any w1 _ g gl 0 ws nm v [] P3.out HSZ.out).mono ?_; rw [hok]; rintro e w4 ⟨rfl, nm', P4, hnm⟩
               have b4 := P4.box b1 (by omega)
               have q0 := b4.at_ 0 rfl
               have q1 := b4.at_ 1 rfl
               have f0 := b4.free 0
               have f1 := b4.free 1))
          have X := ((b4.set 0 (.string ⟨#[]⟩)).set 1 (.slice none 0 0))
          have x0 : ((w4.setCell ⟨w.heap.size, 0, none⟩ (.string ⟨#[]⟩)).setCell ⟨w.heap.size, 1, none⟩ (.slice none 0 0)).cell? ⟨w.heap.size, 0, none⟩ = some (.string ⟨#[]⟩) := X.at_ 0 rfl
          have x1 : ((w4.setCell ⟨w.heap.size, 0, none⟩ (.string ⟨#[]⟩)).setCell ⟨w.heap.size, 1, none⟩ (.slice none 0 0)).cell? ⟨w.heap.size, 1, none⟩ = some (.slice none 0 0) := X.at_ 1 rfl
          have hfin : Below w.heap.size w ((w4.setCell ⟨w.heap.size, 0, none⟩ (.string ⟨#[]⟩)).setCell ⟨w.heap.size, 1, none⟩ (.slice none 0 0)) := ((P4.from_ (hb0.trans (hb1.mono hb0.size)) (by omega)).setCell (Nat.le_refl _) _).setCell (Nat.le_refl _) _
          clear X
          generalize HW : ((w4.setCell ⟨w.heap.size, 0, none⟩ (.string ⟨#[]⟩)).setCell ⟨w.heap.size, 1, none⟩ (.slice none 0 0)) = W at x0 x1 hfin ⊢
          refine bodyPost_ret (v := .tuple #[polV ⟨#[]⟩ none 0 0, .int .i64 22, .int .i64 1]) (by simp [results, Tryz.results18, go_sem, x0, x1]) rfl ⟨?_, hfin⟩
          rw [HF.out]; rfl
      · have hyes : 0 < ws.length := by
          rcases Nat.eq_zero_or_pos ws.length with h0 | h0
          · have e := List.eq_nil_of_length_eq_zero h0
            rw [HL0.out, e] at hok; exact absurd hok (by decide)
          · exact h0
        have HN := Lib.hid (show ∀ nm', nm' = (⟨(txt (txts (lineOf 0 ws)) 1).toArray⟩ : ByteArray) → tiersR nm'.toList ws.length (ws.drop (0 + (lineOf 0 ws).length)) [] = parseW ws from fun nm' e => by
          unfold parseW
          rw [e, toList_mk, ← HL0.out, hok, if_pos rfl, Nat.zero_add, HL0.out]; rfl)
        go_wp2_with (first
          | (go_at_call 66; refine (peek_yes _ _ _ _ HR.out.ps.mem.at_ hyes).mono ?_; rintro e w3 ⟨⟨tt, cc, rfl⟩, hb3⟩
             have P3 := Lib.hid ((HR.out.ps.below hb3).below ((Below.refl _ _).alloc (Nat.le_refl _) (.cells #[.string tt, .int .i64 (lineAt (ws.drop 0)), .int .i64 cc] 92)))
             have BW := Bx.new w3 92 #[.string tt, .int .i64 (lineAt (ws.drop 0)), .int .i64 cc]
             have z1 := BW.at_ 1 rfl)
          | (go_at_call 67; refine (head_any w1 _ g gl 0 ws nm v [] P3.out HSZ.out).mono ?_; rw [hok]; rintro e w4 ⟨rfl, nm', P4, hnm⟩
             have P5 := Lib.hid P4))
        go_roundw
        case rel => exact ⟨false, _, _, _, _, rfl, ⟨P5.out, fun e => (by cases e), fun _ => ⟨ws.length, by omega, HN.out _ (hnm (by trivial))⟩⟩⟩
        case measure => rw [P5.out.cellA, HR.out.ps.cellA]; simp [firstN]; omega
end Go.Proofs.YtnnamhomapagiaaGreatDoor
