/-
  Several texts in one: PolNumber, PolHead, PolTier, WordFewB, WordFewC, PolParse.
-/
import Derived.Laws.BytesArg
import Derived.Laws.Concat
import Derived.Test.YtalkkhafcfhglaaGreatDoorQ18
set_option maxRecDepth 100000
set_option maxHeartbeats 4000000
namespace Go.Proofs.YtalkkhafcfhglaaGreatDoor.Py
open Go.RowKit
def J3e (tb what : ByteArray) (r : Option Int) : Bool := (tb.toList == what.toList) && r.isSome
theorem J3f (b off n c : Nat) (t0 t1 what : ByteArray) (w : World) (hn : 2 <= n) (h0 : w.cell? ⟨b, off, none⟩ = some (.string t0)) (h1 : w.cell? ⟨b, off + 3, none⟩ = some (.string t1)) :
  Calls Tryz.prog 180 #[.slice (some ⟨b, off, none⟩) n c, .string what] w fun e w' => e = .returned (.tuple #[.int .i64 ((numR t1.toList).getD 0), .bool (J3e t0 what (numR t1.toList))]) /\ w = w' := by
 have HN := zI (fun W => Jtr t1 W);have g1 : (1 : Int) < (n : Int) := by omega
 have g0 : (0 : Int) < (n : Int) := by omega
 unfold J3e;cases hr : numR t1.toList with
 | none =>
   rw [hr] at HN;unfold numV at HN;cases hq : (t0.toList == what.toList)
   all_goals
    go_enter Tryz.func180, Tryz.ntmps180;go_wp2_with (go_at_call 237; refine (HN.out _).mono ?_; rintro e w1 ⟨rfl, rfl⟩)
    go_ret2;exact ⟨rfl, rfl⟩
 | some v =>
   rw [hr] at HN;unfold numV at HN;cases hq : (t0.toList == what.toList)
   all_goals
    go_enter Tryz.func180, Tryz.ntmps180;go_wp2_with (go_at_call 237; refine (HN.out _).mono ?_; rintro e w1 ⟨rfl, rfl⟩)
    go_ret2;exact ⟨rfl, rfl⟩
theorem Jek {w : World} {B : Nat} {e T : TypeId} {k : Nat} {v : Value} {n : Nat} {xs : List Value} {b : Nat} {cs : Array Value} {fr : Nat × Nat} (hown : w.ownsRow B e k v n xs) (hb : w.heap[b]? = some (.cells cs T fr)) (hTe : T ≠ e) : v.ownBlock ≠ some b := by
 rcases hown.2 with ⟨rfl, _⟩ | ⟨g, cap, cur, rfl, _, hg, _⟩
 · simp [Value.ownBlock]
 · intro h
   simp only [Value.ownBlock, Option.some.injEq] at h;subst h;rw [hg] at hb;simp only [Option.some.injEq, Obj.cells.injEq] at hb;exact hTe hb.2.1.symm
structure PS (w1 w : World) (g gl a : Nat) (ws : List Wd) (nm : ByteArray) (v : Value) (ts : List Ti) : Prop where
 base : Ja6 w1 g 0 ws
 mem : Jb0 w1 g a ws w
 bx : Bx w gl 206 #[.pointer (some ⟨g, 0, none⟩), .string nm, v]
 own : w.ownsRow w1.heap.size 119 4 v ts.length (ts.flatMap Ti.cells)
 gge : w1.heap.size <= gl
 ok : ∀ t ∈ ts, t.Ok
 few : ts.length <= 5
 size : nm.size <= 4000
section
variable {w1 w w' : World} {g gl a a' : Nat} {ws : List Wd} {nm nm' : ByteArray} {v v' : Value} {ts ts' : List Ti}
theorem PS.ne (h : PS w1 w g gl a ws nm v ts) : v.ownBlock ≠ some gl := Jek h.own h.bx.blk (by decide)
theorem PS.glt (h : PS w1 w g gl a ws nm v ts) : g < gl := Nat.lt_of_lt_of_le h.base.lt h.gge
theorem PS.below (h : PS w1 w g gl a ws nm v ts) (hb : Below w.heap.size w w') : PS w1 w' g gl a ws nm v ts :=
 ⟨h.base, h.mem.grown h.base (Jaa hb none) (fun k e => by cases e), h.bx.below hb, own_below h.own hb, h.gge, h.ok, h.few, h.size⟩
theorem PS.line (h : PS w1 w g gl a ws nm v ts) (hl : Jb0 w g a' ws w') : PS w1 w' g gl a' ws nm v ts :=
 ⟨h.base, ⟨hl.at_, Jap h.mem.gr hl.gr, hl.k1.trans h.mem.k1, hl.k2.trans h.mem.k2⟩, h.bx.grown hl.gr (fun e => by injection e with e; have := h.glt; omega),
  h.own.kept hl.gr (by
   cases hv : v.ownBlock with
   | none => exact .inl rfl
   | some k => exact .inr fun e => by injection e with e; have := (h.own.lt k hv).1; have := h.base.lt; omega), h.gge, h.ok, h.few, h.size⟩
theorem PS.named (h : PS w1 w g gl a ws nm v ts) (hs : nm'.size <= 4000) : PS w1 (w.setCell ⟨gl, 1, none⟩ (.string nm')) g gl a ws nm' v ts :=
 ⟨h.base, h.mem.set h.base (p := ⟨gl, 1, none⟩) h.gge _, by simpa using h.bx.set 1 (.string nm'), Jbp h.own (fun k hk e => h.ne (by rw [hk, e])) _, h.gge, h.ok, h.few, hs⟩
theorem PS.put (h : PS w1 w g gl a ws nm v ts) (hg : w.grownBy w' v.ownBlock) (ho : w'.ownsRow w1.heap.size 119 4 v' ts'.length (ts'.flatMap Ti.cells)) (hok : ∀ t ∈ ts', t.Ok) (hfew : ts'.length <= 5) :
  PS w1 (w'.setCell ⟨gl, 2, none⟩ v') g gl a ws nm v' ts' := by
 have hbx := h.bx.grown hg (fun e => h.ne e.symm);have hne : v'.ownBlock ≠ some gl := Jek ho hbx.blk (by decide)
 exact ⟨h.base, (h.mem.grown h.base hg (fun k hk => (h.own.lt k hk).1)).set h.base (p := ⟨gl, 2, none⟩) h.gge _, by simpa using hbx.set 2 v',
  Jbp ho (fun k hk e => hne (by rw [hk, e])) _, h.gge, hok, hfew, h.size⟩
end
structure WL (w : World) (b off : Nat) (l : List Wd) : Prop where
 lt : b < w.heap.size
 at_ : ∀ j u, (wrow l)[j]? = some u -> w.cell? ⟨b, off + j, none⟩ = some u
theorem WL.below {w w' : World} {b off : Nat} {l : List Wd} (h : WL w b off l) (hb : Below w.heap.size w w') : WL w' b off l :=
 ⟨Nat.lt_of_lt_of_le h.lt hb.size, fun j u hu => (hb.cell (p := ⟨b, off + j, none⟩) h.lt).trans (h.at_ j u hu)⟩
theorem WL.text {w : World} {b off : Nat} {l : List Wd} (h : WL w b off l) (j : Nat) (hj : j < l.length) : w.cell? ⟨b, off + j * 3, none⟩ = some (.string ⟨(txt (txts l) j).toArray⟩) := by
 rw [J18 hj]; exact h.at_ _ _ (Jg2 l j hj).1
theorem Jfa (a : Nat) (ws : List Wd) : Jay a ws = Jdb (ws.drop a) := by
 unfold Jay Jdb;by_cases h : a < ws.length
 · rw [List.getElem?_eq_getElem h, List.drop_eq_getElem_cons h]
 · rw [List.getElem?_eq_none (by omega), List.drop_of_length_le (by omega)]
theorem Jin (l : List Wd) : (txts l).length = l.length := by simp [txts]
theorem toList_mk (l : List UInt8) : (⟨l.toArray⟩ : ByteArray).toList = l := by rw [ByteArray.toList_eq]
theorem Jk1 (l : List Wd) : ∀ x ∈ Jdb l, x ∈ l := by
 cases l with
 | nil => simp [Jdb]
 | cons x r => exact fun y hy => (List.takeWhile_sublist (fun y => decide (y.line = x.line))).subset (show y ∈ (x :: r).takeWhile (fun y => decide (y.line = x.line)) from hy)
theorem Jwc {l : List Wd} {n : Nat} (h : ∀ x ∈ l, x.text.length <= n) (i : Nat) : (txt (txts l) i).length <= n := by
 by_cases hi : i < l.length
 · rw [J18 hi]; exact h _ (List.getElem_mem hi)
 · unfold txt txts
   rw [List.getD_eq_getElem?_getD, List.getElem?_eq_none (by simpa using hi)]; simp
theorem Jmo (w1 w : World) (g gl a : Nat) (ws : List Wd) (nm : ByteArray) (v : Value) (ts : List Ti) (h : PS w1 w g gl a ws nm v ts) (hsz : ∀ x ∈ ws, x.text.length <= 4000) :
  Calls Tryz.prog 110 #[.pointer (some ⟨gl, 0, none⟩)] w fun e w' => e = .returned (.bool (Jeu (txts (Jay a ws)))) /\ ∃ nm', PS w1 w' g gl (a + (Jay a ws).length) ws nm' v ts /\ (Jeu (txts (Jay a ws)) = true -> nm' = ⟨(txt (txts (Jay a ws)) 1).toArray⟩) := by
 have c0 := h.bx.at_ 0 rfl;have HL := zI (Jkz w g a ws h.mem.at_);have hsz' : ∀ x ∈ Jay a ws, x.text.length <= 4000 := fun x hx => hsz x (by rw [Jfa] at hx; exact List.mem_of_mem_drop (Jk1 _ x hx));have HS := zI (Jwc hsz');clear hsz hsz';obtain ⟨l, hl⟩ : ∃ l, Jay a ws = l := ⟨_, rfl⟩;rw [hl] at HL HS ⊢;clear hl;by_cases h2 : l.length = 2
 rotate_left
 · have HF := zI (show Jeu (txts l) = false from by unfold Jeu; rw [Jin, decide_eq_false h2]; rfl)
   have h2' : ((l.length : Int) != 2) = true := bne_iff_ne.2 (by omega);clear h2;go_enter Tryz.func110, Tryz.ntmps110;go_wp2_with (go_at_call 179; refine HL.out.mono ?_; rintro e w2 ⟨vl, rfl, hown, hmem⟩; obtain ⟨A, c, rfl, hlc, hsl⟩ := own_slice hown)
   go_ret;exact ⟨by rw [HF.out]; rfl, nm, h.line hmem, fun e => by rw [HF.out] at e; cases e⟩
 · have h2' : ((l.length : Int) != 2) = false := by rw [h2]; rfl
   obtain ⟨t0, ht0⟩ : ∃ t0, t0 = txt (txts l) 0 := ⟨_, rfl⟩;obtain ⟨t1, ht1⟩ : ∃ t1, t1 = txt (txts l) 1 := ⟨_, rfl⟩;have hs1 := HS.out 1;rw [<- ht1] at hs1 ⊢;have HT0 := zI ht0;have HT1 := zI ht1;have HH := zI (show Jeu (txts l) = (t0 == Jcu) from by unfold Jeu; rw [Jin, decide_eq_true h2, HT0.out]; rfl);have HL2 := zI h2;have hne : wrow l ≠ [] := fun e => by have := congrArg List.length e; rw [Jeh, h2] at this; simp at this
   have hsb : (⟨t1.toArray⟩ : ByteArray).size <= 4000 := by rw [<- Jab, toList_mk]; exact hs1
   have g1 : (1 : Int) < (l.length : Int) := by omega
   have g0 : (0 : Int) < (l.length : Int) := by omega
   clear ht0 ht1 h2;cases hq : (t0 == Jcu)
   · rw [hq] at HH
     have he : (t0 == ([112, 111, 108, 105, 99, 121] : List UInt8)) = false := hq;clear hq;go_enter Tryz.func110, Tryz.ntmps110
     go_wp2_with (first
      | (go_at_call 179; refine HL.out.mono ?_; rintro e w2 ⟨vl, rfl, hown, hmem⟩; obtain ⟨A, c, rfl, hlc, hsl⟩ := own_slice hown
         obtain ⟨b, off, rfl, hb, hc⟩ := hsl.at_ hne;have W2 : WL w2 b off l := ⟨hb, hc⟩;have x0 := W2.text 0 (by have := HL2.out; omega);rw [Nat.zero_mul, Nat.add_zero, <- HT0.out] at x0;have P2 := zI (h.line hmem);clear hc hsl hmem hown W2))
     go_ret;exact ⟨by rw [HH.out]; rfl, nm, P2.out, fun e => by rw [HH.out] at e; cases e⟩
   · rw [hq] at HH
     have he : (t0 == ([112, 111, 108, 105, 99, 121] : List UInt8)) = true := hq;clear hq;go_enter Tryz.func110, Tryz.ntmps110
     go_wp2_with (first
      | (go_at_call 179; refine HL.out.mono ?_; rintro e w2 ⟨vl, rfl, hown, hmem⟩; obtain ⟨A, c, rfl, hlc, hsl⟩ := own_slice hown
         obtain ⟨b, off, rfl, hb, hc⟩ := hsl.at_ hne;have W2 : WL w2 b off l := ⟨hb, hc⟩;have x0 := W2.text 0 (by have := HL2.out; omega);have x1 := W2.text 1 (by have := HL2.out; omega);rw [Nat.zero_mul, Nat.add_zero, <- HT0.out] at x0;rw [Nat.one_mul, <- HT1.out] at x1;have P2 := zI (h.line hmem);clear hc hsl hmem hown W2)
      | (go_at_call 39; refine (Jci _ _ (by omega)).mono ?_; rintro e w3 ⟨rfl, hb3⟩
         have P3 := zI (P2.out.below hb3);have c1 := P3.out.bx.at_ 1 rfl;have f1 := P3.out.bx.free 1))
     go_ret;exact ⟨by rw [HH.out]; rfl, _, P3.out.named hsb, fun _ => rfl⟩
open Go.ChangeAt Go.ChangeShapes Go.Deep Go.WideShapes
theorem Jwd (l : List Wd) (i : Nat) (hi : i + 1 < l.length) (b off o n c : Nat) (what : ByteArray) (wl : List UInt8) (hwl : what.toList = wl) (w : World) (hn : 2 <= n) (ho : o = off + i * 3) (W : WL w b off l) :
  Calls Tryz.prog 180 #[.slice (some ⟨b, o, none⟩) n c, .string what] w fun e w' => e = .returned (.tuple #[.int .i64 (Jg7 (txts l) i), .bool (Jg6 (txts l) i wl)]) /\ w = w' := by
 subst ho hwl;have h1 := W.text (i + 1) hi;rw [show off + (i + 1) * 3 = off + i * 3 + 3 from by omega] at h1;have h := J3f b (off + i * 3) n c _ _ what w hn (W.text i (by omega)) h1;rw [toList_mk] at h;unfold J3e at h;rw [toList_mk] at h;exact h
theorem Jqe : (⟨#[101, 118, 101, 114, 121]⟩ : ByteArray).toList = Jcc := by rw [ByteArray.toList_eq]; rfl
theorem Jtt : (⟨#[107, 101, 101, 112]⟩ : ByteArray).toList = Jev := by rw [ByteArray.toList_eq]; rfl
theorem Jol : (⟨#[115, 104, 97, 114, 100, 115]⟩ : ByteArray).toList = Jbn := by rw [ByteArray.toList_eq]; rfl
structure TS (w : World) (gl : Nat) (p : Value) (nm : ByteArray) (v : Value) (b off : Nat) (tb : ByteArray) : Prop where
 bx : Bx w gl 206 #[p, .string nm, v]
 lt : b < w.heap.size
 at_ : w.cell? ⟨b, off + 3, none⟩ = some (.string tb)
section
variable {w w' : World} {gl : Nat} {p : Value} {nm : ByteArray} {v : Value} {b off : Nat} {tb : ByteArray}
theorem TS.below (h : TS w gl p nm v b off tb) (hb : Below w.heap.size w w') : TS w' gl p nm v b off tb := ⟨h.bx.below hb, Nat.lt_of_lt_of_le h.lt hb.size, (hb.cell (p := ⟨b, off + 3, none⟩) h.lt).trans h.at_⟩
theorem TS.alloc (h : TS w gl p nm v b off tb) (o : Obj) : TS (w.alloc o) gl p nm v b off tb := h.below ((Below.refl _ _).alloc (Nat.le_refl _) o)
end
theorem J3g {ts : List Ti} {t : Ti} (h : ∀ x ∈ ts, x.Ok) (ht : t.Ok) : ∀ x ∈ ts ++ [t], x.Ok := by
 intro x hx;rcases List.mem_append.1 hx with hx | hx
 · exact h x hx
 · rw [List.mem_singleton.1 hx]; exact ht
theorem J0m {l : List Wd} (h : ∀ i, (txt (txts l) i).length <= 4000) : (Jmm (txts l)).Ok :=
 ⟨by show (⟨(txt (txts l) 1).toArray⟩ : ByteArray).size <= maxLen; rw [<- Jab, toList_mk]; have := h 1; unfold maxLen; omega, Jmn _ _, Jmn _ _, Jmn _ _⟩
theorem Jqf {w : World} {B B2 b off n c m : Nat} {v : Value} {xs ys : List Value} (h : w.ownsRow B 119 4 v m xs) (k : w.ownsRow B2 208 3 (.slice (some ⟨b, off, none⟩) n c) n ys) : some b ≠ v.ownBlock := by
 rcases k.2 with ⟨e, _⟩ | ⟨g, cap, cur, e, _, hg, _⟩
 · cases e
 · cases e
   exact (Jek h hg (by decide)).symm
theorem Jom (w1 w : World) (g gl a : Nat) (ws : List Wd) (nm : ByteArray) (v : Value) (ts : List Ti) (h : PS w1 w g gl a ws nm v ts) (hsz : ∀ x ∈ ws, x.text.length <= 4000) :
  Calls Tryz.prog 111 #[.pointer (some ⟨gl, 0, none⟩)] w fun e w' => e = .returned (.bool (Jcw (txts (Jay a ws)) ts.length)) /\ ∃ v' ts', PS w1 w' g gl (a + (Jay a ws).length) ws nm v' ts' /\ (Jcw (txts (Jay a ws)) ts.length = true -> ts' = ts ++ [Jmm (txts (Jay a ws))]) := by
 have c0 := h.bx.at_ 0 rfl;have HL := zI (Jkz w g a ws h.mem.at_);have hsz' : ∀ x ∈ Jay a ws, x.text.length <= 4000 := fun x hx => hsz x (by rw [Jfa] at hx; exact List.mem_of_mem_drop (Jk1 _ x hx));have HS := zI (Jwc hsz');clear hsz hsz';obtain ⟨l, hl⟩ : ∃ l, Jay a ws = l := ⟨_, rfl⟩;rw [hl] at HL HS ⊢;clear hl;by_cases h8 : l.length = 8
 rotate_left
 · have HF := zI (show Jcw (txts l) ts.length = false from by unfold Jcw; rw [Jin, decide_eq_false h8]; rfl)
   have h8' : ((l.length : Int) != 8) = true := bne_iff_ne.2 (by omega);clear h8;go_enter Tryz.func111, Tryz.ntmps111;go_wp2_with (go_at_call 179; refine HL.out.mono ?_; rintro e w2 ⟨vl, rfl, hown, hmem⟩; obtain ⟨A, c, rfl, hlc, hsl⟩ := own_slice hown)
   go_ret;exact ⟨by rw [HF.out]; rfl, v, ts, h.line hmem, fun e => by rw [HF.out] at e; cases e⟩
 obtain ⟨t0, ht0⟩ : ∃ t0, t0 = txt (txts l) 0 := ⟨_, rfl⟩;have HT0 := zI ht0;have HH := zI (show Jcw (txts l) ts.length = (((t0 == Jgj) && !decide (ts.length = 5)) && (Jg6 (txts l) 2 Jcc && (Jg6 (txts l) 4 Jev && Jg6 (txts l) 6 Jbn))) from by unfold Jcw; rw [Jin, decide_eq_true h8, HT0.out]; rfl);have HL8 := zI h8;have hne : wrow l ≠ [] := fun e => by have := congrArg List.length e; rw [Jeh, h8] at this; simp at this
 rw [h8] at HL ⊢;clear ht0;cases hq : (t0 == Jgj)
 · have HF := zI (show Jcw (txts l) ts.length = false from by rw [HH.out, hq]; rfl)
   have he : (t0 == ([116, 105, 101, 114] : List UInt8)) = false := hq;clear hq HH h8;go_enter Tryz.func111, Tryz.ntmps111
   go_wp2_with (first
    | (go_at_call 179; refine HL.out.mono ?_; rintro e w2 ⟨vl, rfl, hown, hmem⟩; obtain ⟨A, c, rfl, hlc, hsl⟩ := own_slice hown
       obtain ⟨b, off, rfl, hb, hc⟩ := hsl.at_ hne;have W2 : WL w2 b off l := ⟨hb, hc⟩;have x0 := W2.text 0 (by have := HL8.out; omega);rw [Nat.zero_mul, Nat.add_zero, <- HT0.out] at x0;have P2 := zI (h.line hmem);clear hc hsl hmem hown W2))
   go_ret;exact ⟨by rw [HF.out]; rfl, v, ts, P2.out, fun e => by rw [HF.out] at e; cases e⟩
 have he : (t0 == ([116, 105, 101, 114] : List UInt8)) = true := hq;obtain ⟨Av, cv, rfl, _, _⟩ := own_slice h.own;by_cases h5 : ts.length = 5
 · have HF := zI (show Jcw (txts l) ts.length = false from by rw [HH.out, hq, decide_eq_true h5]; rfl)
   have h5' : ((ts.length : Int) == 5) = true := beq_iff_eq.2 (by omega);clear hq HH h8 h5;go_enter Tryz.func111, Tryz.ntmps111
   go_wp2_with (first
    | (go_at_call 179; refine HL.out.mono ?_; rintro e w2 ⟨vl, rfl, hown, hmem⟩; obtain ⟨A, c, rfl, hlc, hsl⟩ := own_slice hown
       obtain ⟨b, off, rfl, hb, hc⟩ := hsl.at_ hne;have W2 : WL w2 b off l := ⟨hb, hc⟩;have x0 := W2.text 0 (by have := HL8.out; omega);rw [Nat.zero_mul, Nat.add_zero, <- HT0.out] at x0;have P2 := zI (h.line hmem);have c2 := P2.out.bx.at_ 2 rfl;clear hc hsl hmem hown W2))
   go_ret;exact ⟨by rw [HF.out]; rfl, _, ts, P2.out, fun e => by rw [HF.out] at e; cases e⟩
 have HF := zI (show Jcw (txts l) ts.length = (Jg6 (txts l) 2 Jcc && (Jg6 (txts l) 4 Jev && Jg6 (txts l) 6 Jbn)) from by rw [HH.out, hq, decide_eq_false h5]; rfl);have h5' : ((ts.length : Int) == 5) = false := beq_eq_false_iff_ne.2 (by omega);have hlt5 : ts.length < 5 := by have := h.few; omega
 have hs1 := HS.out 1;have HOK := zI (J0m HS.out);clear hq HH h8 h5;rw [HF.out];obtain ⟨i0, hi, hz0, hz1, hz2⟩ := info_parts Jn3;go_enter Tryz.func111, Tryz.ntmps111
 go_upto_region 7 with (first
  | (go_at_call 179; refine HL.out.mono ?_; rintro e w2 ⟨vl, rfl, hown, hmem⟩; obtain ⟨A, c, rfl, hlc, hsl⟩ := own_slice hown
     obtain ⟨b, off, rfl, hb, hc⟩ := hsl.at_ hne;have W2 : WL w2 b off l := ⟨hb, hc⟩;have x0 := W2.text 0 (by have := HL8.out; omega);rw [Nat.zero_mul, Nat.add_zero, <- HT0.out] at x0;have P2 := zI (h.line hmem);have c2 := P2.out.bx.at_ 2 rfl;have hc2 : 2 <= c := (by omega);have hc4 : 4 <= c := (by omega);have hc6 : 6 <= c := (by omega);have HW2 := zI W2;have HNE := zI (Jqf P2.out.own hown);clear hc hsl hmem hown W2)
  | (go_at_call 180; (with_reducible refine (Jwd l 2 (by have := HL8.out; omega) b off (off + 6) _ _ _ Jcc Jqe _ (by omega) rfl HW2.out).mono ?_); rintro e w3 ⟨rfl, rfl⟩)
  | (go_at_call 180; (with_reducible refine (Jwd l 4 (by have := HL8.out; omega) b off (off + 12) _ _ _ Jev Jtt _ (by omega) rfl HW2.out).mono ?_); rintro e w3 ⟨rfl, rfl⟩)
  | (go_at_call 180; (with_reducible refine (Jwd l 6 (by have := HL8.out; omega) b off (off + 18) _ _ _ Jbn Jol _ (by omega) rfl HW2.out).mono ?_); rintro e w3 ⟨rfl, rfl⟩))
 have hbD := (Below.refl w2.heap.size w2).drew;have PD := zI (P2.out.below hbD);have x1 := (HW2.out.below hbD).text 1 (by have := HL8.out; omega);rw [Nat.one_mul] at x1;have d2 := PD.out.bx.at_ 2 rfl;obtain ⟨t1, ht1⟩ : ∃ t1, t1 = txt (txts l) 1 := ⟨_, rfl⟩;rw [<- ht1] at x1 hs1;have HT1 := zI ht1;have hsb : (⟨t1.toArray⟩ : ByteArray).size <= 4000 := by rw [<- Jab, toList_mk]; exact hs1
 obtain ⟨tb, htb⟩ : ∃ tb : ByteArray, tb = ⟨t1.toArray⟩ := ⟨_, rfl⟩;rw [<- htb] at x1 hsb;have HTT := zI (show Jmm (txts l) = ⟨tb, Jg7 (txts l) 2, Jg7 (txts l) 4, Jg7 (txts l) 6⟩ from by rw [htb, ht1]; rfl);obtain ⟨q1, hq1⟩ : ∃ q1, Jg7 (txts l) 2 = q1 := ⟨_, rfl⟩;obtain ⟨q2, hq2⟩ : ∃ q2, Jg7 (txts l) 4 = q2 := ⟨_, rfl⟩;obtain ⟨q3, hq3⟩ : ∃ q3, Jg7 (txts l) 6 = q3 := ⟨_, rfl⟩;obtain ⟨B1, hB1⟩ : ∃ B1, Jg6 (txts l) 2 Jcc = B1 := ⟨_, rfl⟩;obtain ⟨B2, hB2⟩ : ∃ B2, Jg6 (txts l) 4 Jev = B2 := ⟨_, rfl⟩;obtain ⟨B3, hB3⟩ : ∃ B3, Jg6 (txts l) 6 Jbn = B3 := ⟨_, rfl⟩;rw [hq1, hq2, hq3] at HTT;rw [hq1, hq2, hq3, hB1, hB2, hB3];have HBS := zI (And.intro hB1 (And.intro hB2 hB3));clear x0 c0 c2 ht1 htb hq1 hq2 hq3 hB1 hB2 hB3 he h5' hne hlc hc2 hc4 hc6 HL;have HSZ := zI (show ∀ W, Below w2.drew.heap.size w2.drew W -> w1.heap.size <= (W.alloc (.cells #[.string tb, .int .i64 q1, .int .i64 q2, .int .i64 q3] 119)).heap.size from fun W hW => by have := hW.size; have := PD.out.mem.gr.size; simp; omega);have g1 : (1 : Int) < 8 := by decide
 have S0 : TS w2.drew gl (.pointer (some ⟨g, 0, none⟩)) nm (.slice Av ts.length cv) b off tb := ⟨PD.out.bx, (HW2.out.below hbD).lt, x1⟩;have HGL := zI (show some gl ≠ (Value.slice Av ts.length cv).ownBlock from PD.out.ne.symm);have HONE := zI (J15 ⟨tb, q1, q2, q3⟩);clear d2 x1;have d2 := S0.bx.at_ 2 rfl;have x1 := S0.at_
 go_region_law (first
   | (refine Jbw _ (by rfl) _ _ 61 (by rfl) w1.heap.size 119 i0 _ 4 40 Tryz.underlying61 hi hz0 hz1 hz2 rfl (by decide) (.slice Av ts.length cv) ts.length (ts.flatMap Ti.cells) (by rfl) (P4.out.own.alloc _) (some ⟨w4.heap.size, 0, none⟩) 1 1 (Ti.cells ⟨tb, q1, q2, q3⟩) (by rfl) rfl (Sl.new w4 119 w4.heap.size (Ti.cells ⟨tb, q1, q2, q3⟩) #[.string tb, .int .i64 q1, .int .i64 q2, .int .i64 q3] rfl rfl) HONE.out (by unfold maxLen; omega) (by omega) (HSZ.out _ hb4) ?_
      intro v' w5 hown5 hgrow5 _;obtain ⟨A5, c5, e5, hsl5⟩ := Jrm hown5;subst e5;have S5 := zI ((S4.out.alloc _).bx.grown hgrow5 HGL.out);have d5 := S5.out.at_ 2 rfl;have f5 := S5.out.free 2)
   | (go_simp
      go_at_call 39
      refine (Jci _ _ (by omega)).mono ?_;rintro e w4 ⟨rfl, hb4⟩;have P4 := zI (PD.out.below hb4);have S4 := zI (S0.below hb4);have d4 := S4.out.bx.at_ 2 rfl;have d4a := (S4.out.alloc (.cells #[.string tb, .int .i64 q1, .int .i64 q2, .int .i64 q3] 119)).bx.at_ 2 rfl))
 all_goals
  have e1 : (ts ++ [(⟨tb, q1, q2, q3⟩ : Ti)]).length = ts.length + 1 := by simp
  have e2 : (ts ++ [(⟨tb, q1, q2, q3⟩ : Ti)]).flatMap Ti.cells = ts.flatMap Ti.cells ++ Ti.cells ⟨tb, q1, q2, q3⟩ := by simp
  have hok := J3g h.ok HOK.out;rw [HTT.out] at hok;have P6 := zI ((P4.out.below ((Below.refl _ _).alloc (Nat.le_refl _) _)).put (v' := .slice A5 (ts.length + 1) c5) (ts' := ts ++ [⟨tb, q1, q2, q3⟩]) hgrow5 (by rw [e1, e2]; exact hown5) hok (by rw [e1]; omega));clear hown5 hgrow5 hsl5 hok;cases B1 <;> cases B2 <;> cases B3
  all_goals
   go_wp2;go_ret;exact ⟨by rw [HBS.out.1, HBS.out.2.1, HBS.out.2.2]; rfl, _, _, P6.out, fun _ => by rw [HTT.out]⟩
end Go.Proofs.YtalkkhafcfhglaaGreatDoor.Py
namespace Go.Proofs.YtalkkhafcfhglaaGreatDoor.Py
open Go.RowKit
theorem Jtu : ∀ l, Jao l ≠ []
 | [] => by simp [Jao]
 | c :: r => by
   unfold Jao;split
   · simp
   · split <;> simp
theorem Jon {x : UInt8} (hx : x ≠ 10) (l : List UInt8) : ∃ y ys, Jao l = y :: ys /\ Jao (x :: l) = (x :: y) :: ys := by
 match h : Jao l with
 | [] => exact absurd h (Jtu l)
 | y :: ys => exact ⟨y, ys, rfl, by rw [Jao, if_neg hx, h]⟩
open Go.ChangeAt Go.ChangeShapes Go.Deep Go.WideShapes
def totW (l : List Wd) : Nat := (l.map fun x => x.text.length).sum
theorem Jjo (c : UInt8) : ∀ l, totW (Ja8 c l) <= totW l + 1
 | [] => by simp [Ja8]
 | [x] => by simp [Ja8, totW]
 | x :: y :: r => by
   have h := Jjo c (y :: r);have e1 : totW (Ja8 c (x :: y :: r)) = x.text.length + totW (Ja8 c (y :: r)) := by simp [Ja8, totW]
   have e2 : totW (x :: y :: r) = x.text.length + totW (y :: r) := by simp [totW]
   omega
theorem J3h (n : Int) (l : List UInt8) : totW (lst n l).out <= l.length := by
 obtain ⟨m, rfl⟩ : ∃ m : List UInt8, l = m.reverse := ⟨l.reverse, by simp⟩
 induction m with
 | nil => simp [lst, totW]
 | cons c r ih =>
   rw [List.reverse_cons, Jc2];unfold Jdn;rw [List.length_append, List.length_singleton];split
   · exact Nat.le_succ_of_le ih
   · split
     · have := Jjo c (lst n r.reverse).out
       show totW (Ja8 c (lst n r.reverse).out) <= _;omega
     · have e : totW ((lst n r.reverse).out ++ [⟨[c], n, ((lst n r.reverse).i : Int) + 1⟩]) = totW (lst n r.reverse).out + 1 := by simp [totW]
       show totW (_ ++ _) <= _;rw [e]; omega
theorem Jwe {x : Wd} : ∀ {l : List Wd}, x ∈ l -> x.text.length <= totW l
 | y :: r, h => by
   have e : totW (y :: r) = y.text.length + totW r := by simp [totW]
   rcases List.mem_cons.1 h with rfl | h
   · omega
   · have := Jwe h; omega
theorem Joo {m : Nat} : ∀ (ls : List (List UInt8)) (n : Int), (∀ l ∈ ls, l.length <= m) -> ∀ x ∈ cutW n ls, x.text.length <= m
 | [], _, _, x, h => by simp [cutW] at h
 | y :: r, n, hl, x, h => by
   rcases List.mem_append.1 (show x ∈ Jae n y ++ cutW (n + 1) r from h) with h | h
   · have h1 := Jwe ((List.takeWhile_sublist _).subset h)
     have h2 := J3h n y;have h3 := hl y (by simp);omega
   · exact Joo r (n + 1) (fun l hh => hl l (by simp [hh])) x h
theorem Jtv (s : ByteArray) (h : s.size <= 4000) : ∀ x ∈ cutW 1 (Jbx s), x.text.length <= 4000 :=
 Joo _ _ fun l hl => by
  obtain ⟨b, hb, rfl⟩ := List.mem_map.1 hl;have := Jkx s b hb;rw [Jab]; omega
def cellA (w : World) (g : Nat) : Nat := match w.cell? ⟨g, 0, none⟩ with
 | some (.int _ a) => a.toNat
 | _ => 0
def Jwf : Value -> Nat
 | .bool true => 1
 | _ => 0
def Jdd (r : Rd) (B : Nat) (e : Ending) (w' : World) : Prop := match r with
 | .bad k at_ => e = .returned (.tuple #[polV ByteArray.empty none 0 0, .int .i64 k, .int .i64 at_])
 | .good nm ts => ∃ A c, e = .returned (.tuple #[polV ⟨nm.toArray⟩ A ts.length c, .int .i64 0, .int .i64 0]) /\ w'.ownsRow B 119 4 (.slice A ts.length c) ts.length (ts.flatMap Ti.cells) /\ (∀ t ∈ ts, t.Ok) /\ nm.length <= 4000 /\ ts.length <= 5
theorem Jqg (ws : List Wd) (a : Nat) (h : a < ws.length) : Je7 ws[a]? = Jcd (ws.drop a) := by
 rw [List.getElem?_eq_getElem h, List.drop_eq_getElem_cons h]; rfl
structure J44 (w1 wr : World) (g gl : Nat) (ws : List Wd) (first : Bool) (a : Nat) (nm : ByteArray) (v : Value) (ts : List Ti) : Prop where
 ps : PS w1 wr g gl a ws nm v ts
 one : first = true -> a = 0 /\ ts = []
 rest : first = false -> ∃ f, ws.length - a <= f /\ Jf9 nm.toList f (ws.drop a) ts = Jcx ws
theorem Jio (w : World) (g a : Nat) (ws : List Wd) (h : Ja6 w g a ws) (ha : a < ws.length) :
  Calls Tryz.prog 109 #[.pointer (some ⟨g, 0, none⟩)] w fun e w' => (∃ t c, e = .returned (.tuple #[.agg #[.string t, .int .i64 (Jcd (ws.drop a)), .int .i64 c], .bool true])) /\ Below w.heap.size w w' :=
 (Jei w g a ws h).mono fun e w' ⟨he, hb⟩ => by
   refine ⟨⟨Jok ws[a]?, wcol ws[a]?, ?_⟩, hb⟩;rw [he, Jej, Jqg ws a ha, decide_eq_true ha]
theorem J3i (w : World) (g a : Nat) (ws : List Wd) (h : Ja6 w g a ws) (ha : ¬ a < ws.length) :
  Calls Tryz.prog 109 #[.pointer (some ⟨g, 0, none⟩)] w fun e w' => (∃ t l c, e = .returned (.tuple #[.agg #[.string t, .int .i64 l, .int .i64 c], .bool false])) /\ Below w.heap.size w w' :=
 (Jei w g a ws h).mono fun e w' ⟨he, hb⟩ => by
   refine ⟨⟨Jok ws[a]?, Je7 ws[a]?, wcol ws[a]?, ?_⟩, hb⟩;rw [he, Jej, decide_eq_false ha]
theorem PS.cellA {w1 w : World} {g gl a : Nat} {ws : List Wd} {nm : ByteArray} {v : Value} {ts : List Ti} (h : PS w1 w g gl a ws nm v ts) : cellA w g = a := by
 unfold Go.Proofs.YtalkkhafcfhglaaGreatDoor.Py.cellA; rw [h.mem.at_.c0]; simp
theorem PS.le {w1 w : World} {g gl a : Nat} {ws : List Wd} {nm : ByteArray} {v : Value} {ts : List Ti} (h : PS w1 w g gl a ws nm v ts) : a <= ws.length := h.mem.at_.le
theorem PS.from_ {w0 w1 w : World} {g gl a : Nat} {ws : List Wd} {nm : ByteArray} {v : Value} {ts : List Ti} (h : PS w1 w g gl a ws nm v ts) (hb : Below w0.heap.size w0 w1) (hg : w0.heap.size <= g) : Below w0.heap.size w0 w :=
 hb.grown h.mem.gr hb.size (fun k hk => by injection hk with hk; omega)
theorem PS.box {w1 w : World} {g gl a r : Nat} {ws : List Wd} {nm : ByteArray} {v : Value} {ts : List Ti} {T : TypeId} {cs : Array Value} (h : PS w1 w g gl a ws nm v ts) (hr : Bx w1 r T cs) (hg : r < g) : Bx w r T cs :=
 hr.grown h.mem.gr (fun e => by injection e with e; omega)
theorem Jwg (s : ByteArray) (w : World) (hs : s.size <= maxLen) (hm : ∃ m : Int, w.cell? ⟨0, 0, none⟩ = some (.int .i64 m)) :
  Calls Tryz.prog 54 #[.string s] w fun e w' => Jdd (Jdc s) w.heap.size e w' /\ Below w.heap.size w w' := by
 have hlt0 : 0 < w.heap.size := by obtain ⟨m, h⟩ := hm; have := block_lt_of_cell h; simpa using this
 have hb0 : Below w.heap.size w (w.alloc (.cells #[.string ByteArray.empty, .slice none 0 0] 63)) := (Below.refl _ w).alloc (Nat.le_refl _) _;have b0 := Bx.new w 63 #[.string ByteArray.empty, .slice none 0 0];have hCut := J29 s (w.alloc (.cells #[.string ByteArray.empty, .slice none 0 0] 63)) hs (hm.imp fun m h => (hb0.cell (p := ⟨0, 0, none⟩) hlt0).trans h);by_cases h4 : 4000 < s.size
 · have HC := zI (hCut.mono (R' := fun e w' => e = .returned (.tuple #[.pointer none, .int .i64 2, .int .i64 0]) /\ Below (w.alloc (.cells #[.string ByteArray.empty, .slice none 0 0] 63)).heap.size (w.alloc (.cells #[.string ByteArray.empty, .slice none 0 0] 63)) w') (fun e w' ⟨hb, hc⟩ => by
    rcases hc with ⟨_, rfl⟩ | ⟨h, _⟩ | ⟨h, _⟩
    · exact ⟨rfl, hb⟩
    · omega
    · omega))
   have HF := zI (show Jdc s = .bad 2 0 from by unfold Jdc; rw [if_pos h4]);clear hCut;go_enter Tryz.func54, Tryz.ntmps54
   go_wp2_with (first
    | (go_at_call 107; refine HC.out.mono ?_; rintro e w1 ⟨rfl, hb1⟩
       have b1 := b0.below hb1;have q0 := b1.at_ 0 rfl;have q1 := b1.at_ 1 rfl;have f0 := b1.free 0;have f1 := b1.free 1))
   have X := ((b1.set 0 (.string ⟨#[]⟩)).set 1 (.slice none 0 0));have x0 : ((w1.setCell ⟨w.heap.size, 0, none⟩ (.string ⟨#[]⟩)).setCell ⟨w.heap.size, 1, none⟩ (.slice none 0 0)).cell? ⟨w.heap.size, 0, none⟩ = some (.string ⟨#[]⟩) := X.at_ 0 rfl;have x1 : ((w1.setCell ⟨w.heap.size, 0, none⟩ (.string ⟨#[]⟩)).setCell ⟨w.heap.size, 1, none⟩ (.slice none 0 0)).cell? ⟨w.heap.size, 1, none⟩ = some (.slice none 0 0) := X.at_ 1 rfl;have hfin : Below w.heap.size w ((w1.setCell ⟨w.heap.size, 0, none⟩ (.string ⟨#[]⟩)).setCell ⟨w.heap.size, 1, none⟩ (.slice none 0 0)) := ((hb0.trans (hb1.mono hb0.size)).setCell (Nat.le_refl _) _).setCell (Nat.le_refl _) _;clear X;generalize HW : ((w1.setCell ⟨w.heap.size, 0, none⟩ (.string ⟨#[]⟩)).setCell ⟨w.heap.size, 1, none⟩ (.slice none 0 0)) = W at x0 x1 hfin ⊢;refine bodyPost_ret (v := .tuple #[polV ⟨#[]⟩ none 0 0, .int .i64 2, .int .i64 0]) (by simp [results, Tryz.results54, go_sem, x0, x1]) rfl ⟨?_, hfin⟩;rw [HF.out]; rfl
 by_cases hE : cutE 1 (Jbx s) ≠ 0
 · have HC := zI (hCut.mono (R' := fun e w' => e = .returned (.tuple #[.pointer none, .int .i64 22, .int .i64 (cutE 1 (Jbx s))]) /\ Below (w.alloc (.cells #[.string ByteArray.empty, .slice none 0 0] 63)).heap.size (w.alloc (.cells #[.string ByteArray.empty, .slice none 0 0] 63)) w') (fun e w' ⟨hb, hc⟩ => by
    rcases hc with ⟨h, _⟩ | ⟨_, _, rfl⟩ | ⟨_, h, _⟩
    · exact absurd h h4
    · exact ⟨rfl, hb⟩
    · exact absurd h hE))
   have HF := zI (show Jdc s = .bad 22 (cutE 1 (Jbx s)) from by unfold Jdc; rw [if_neg h4, if_pos hE]);clear hCut;generalize cutE 1 (Jbx s) = q at *;go_enter Tryz.func54, Tryz.ntmps54
   go_wp2_with (first
    | (go_at_call 107; refine HC.out.mono ?_; rintro e w1 ⟨rfl, hb1⟩
       have b1 := b0.below hb1;have q0 := b1.at_ 0 rfl;have q1 := b1.at_ 1 rfl;have f0 := b1.free 0;have f1 := b1.free 1))
   have X := ((b1.set 0 (.string ⟨#[]⟩)).set 1 (.slice none 0 0));have x0 : ((w1.setCell ⟨w.heap.size, 0, none⟩ (.string ⟨#[]⟩)).setCell ⟨w.heap.size, 1, none⟩ (.slice none 0 0)).cell? ⟨w.heap.size, 0, none⟩ = some (.string ⟨#[]⟩) := X.at_ 0 rfl;have x1 : ((w1.setCell ⟨w.heap.size, 0, none⟩ (.string ⟨#[]⟩)).setCell ⟨w.heap.size, 1, none⟩ (.slice none 0 0)).cell? ⟨w.heap.size, 1, none⟩ = some (.slice none 0 0) := X.at_ 1 rfl;have hfin : Below w.heap.size w ((w1.setCell ⟨w.heap.size, 0, none⟩ (.string ⟨#[]⟩)).setCell ⟨w.heap.size, 1, none⟩ (.slice none 0 0)) := ((hb0.trans (hb1.mono hb0.size)).setCell (Nat.le_refl _) _).setCell (Nat.le_refl _) _;clear X;generalize HW : ((w1.setCell ⟨w.heap.size, 0, none⟩ (.string ⟨#[]⟩)).setCell ⟨w.heap.size, 1, none⟩ (.slice none 0 0)) = W at x0 x1 hfin ⊢;refine bodyPost_ret (v := .tuple #[polV ⟨#[]⟩ none 0 0, .int .i64 22, .int .i64 q]) (by simp [results, Tryz.results54, go_sem, x0, x1]) rfl ⟨?_, hfin⟩;rw [HF.out]; rfl
 have hE0 : cutE 1 (Jbx s) = 0 := Decidable.of_not_not hE
 have HC := zI (hCut.mono (R' := fun e w' => (∃ g, (w.alloc (.cells #[.string ByteArray.empty, .slice none 0 0] 63)).heap.size <= g /\ e = .returned (.tuple #[.pointer (some ⟨g, 0, none⟩), .int .i64 0, .int .i64 0]) /\ Ja6 w' g 0 (cutW 1 (Jbx s))) /\ Below (w.alloc (.cells #[.string ByteArray.empty, .slice none 0 0] 63)).heap.size (w.alloc (.cells #[.string ByteArray.empty, .slice none 0 0] 63)) w') (fun e w' ⟨hb, hc⟩ => by
  rcases hc with ⟨h, _⟩ | ⟨_, h, _⟩ | ⟨_, _, h⟩
  · exact absurd h h4
  · exact absurd hE0 h
  · exact ⟨h, hb⟩))
 have HF := zI (show Jdc s = Jcx (cutW 1 (Jbx s)) from by unfold Jdc; rw [if_neg h4, if_neg hE]);have HSZ := zI (Jtv s (by omega));clear hCut hE hE0 h4;obtain ⟨ws, hws⟩ : ∃ ws, ws = cutW 1 (Jbx s) := ⟨_, rfl⟩;rw [<- hws] at HC HF HSZ;rw [HF.out];clear hws HF;go_enter Tryz.func54, Tryz.ntmps54
 go_wp2_with (first
  | (go_at_call 107; refine HC.out.mono ?_; rintro e w1 ⟨⟨g, hg, rfl, hW⟩, hb1⟩
     have b1 := b0.below hb1))
 obtain ⟨gl, hgl⟩ : ∃ gl, gl = w1.heap.size := ⟨_, rfl⟩;have hba := (Below.refl w1.heap.size w1).alloc (Nat.le_refl _) (.cells #[.pointer (some ⟨g, 0, none⟩), .string ⟨#[]⟩, .slice none 0 0] 206)
 have P0 : PS w1 (w1.alloc (.cells #[.pointer (some ⟨g, 0, none⟩), .string ⟨#[]⟩, .slice none 0 0] 206)) g gl 0 ws ⟨#[]⟩ (.slice none 0 0) [] :=
  ⟨hW, ⟨hW.below hba, Jaa hba _, hba.cell (p := ⟨g, 1, none⟩) hW.lt, hba.frozen (p := ⟨g, 1, none⟩) hW.lt⟩, hgl ▸ Bx.new w1 _ _, World.ownsRow_nil _ _ _ _, Nat.le_of_eq hgl.symm, by simp, by simp, by decide⟩
 have hgw : w.heap.size < g := by simp at hg; omega
 rw [<- hgl];generalize w1.alloc (.cells #[.pointer (some ⟨g, 0, none⟩), .string ⟨#[]⟩, .slice none 0 0] 206) = w0 at *;clear hba hW hgl hg;go_loopw [9, 10, 11, 12] (fun f _ _ _ wr => ∃ (fb : Bool) (a : Nat) (nm : ByteArray) (v : Value) (ts : List Ti), f = .bool fb /\ J44 w1 wr g gl ws fb a nm v ts) (fun f _ _ _ wr => Jwf f + (ws.length - cellA wr g))
 case atStart => exact ⟨true, 0, _, _, _, rfl, ⟨P0, fun _ => ⟨rfl, rfl⟩, fun e => by cases e⟩⟩
 case round =>
  clear P0;obtain ⟨fb, a, nm, v, ts, rfl, hR⟩ := hrel;have HR := zI hR;have c0 := hR.ps.bx.at_ 0 rfl;have hle := hR.ps.le;have hfew := hR.ps.mem.at_.few;clear hR;cases fb
  · obtain ⟨f, hf, htr⟩ := HR.out.rest rfl
    by_cases hyes : a < ws.length
    · have hne : ws.drop a ≠ [] := fun e => by have := congrArg List.length e; simp at this; omega
      have hlen : 1 <= (Jay a ws).length := by rw [Jfa]; exact Jtq _ hne
      have HLT := zI (show a + (Jay a ws).length > a from by omega);have hgt : decide ((((ws.length - a : Nat) : Int)) > 0) = true := decide_eq_true (by omega);cases f with
      | zero => omega
      | succ f =>
        have HT := zI (show (if Jcw (txts (Jay a ws)) ts.length = true then Jf9 nm.toList f (ws.drop (a + (Jay a ws).length)) (ts ++ [Jmm (txts (Jay a ws))]) else .bad 22 (Jcd (ws.drop a))) = Jcx ws from by
         rw [<- htr, Jfa, <- List.drop_drop];show _ = (if ws.drop a = [] then _ else _);rw [if_neg hne]; rfl)
        clear htr hne;cases hok : Jcw (txts (Jay a ws)) ts.length
        · have HF := zI (show Jcx ws = .bad 22 (Jcd (ws.drop a)) from by rw [<- HT.out, hok]; rfl)
          clear HT
          go_wp2_with (first
           | (go_at_call 108; refine (Jjm _ _ _ _ HR.out.ps.mem.at_).mono ?_; rintro e w2 ⟨rfl, hb2⟩
              have P2 := zI (HR.out.ps.below hb2);have c0 := P2.out.bx.at_ 0 rfl)
           | (go_at_call 109; refine (Jio _ _ _ _ P2.out.mem.at_ hyes).mono ?_; rintro e w3 ⟨⟨tt, cc, rfl⟩, hb3⟩
              have P3 := zI ((P2.out.below hb3).below ((Below.refl _ _).alloc (Nat.le_refl _) (.cells #[.string tt, .int .i64 (Jcd (ws.drop a)), .int .i64 cc] 208)));have BW := Bx.new w3 208 #[.string tt, .int .i64 (Jcd (ws.drop a)), .int .i64 cc];have z1 := BW.at_ 1 rfl)
           | (go_at_call 111; refine (Jom w1 _ g gl a ws nm v ts P3.out HSZ.out).mono ?_; rw [hok]; rintro e w4 ⟨rfl, v', ts', P4, hts⟩
              have b4 := P4.box b1 (by omega);have q0 := b4.at_ 0 rfl;have q1 := b4.at_ 1 rfl;have f0 := b4.free 0;have f1 := b4.free 1))
          have X := ((b4.set 0 (.string ⟨#[]⟩)).set 1 (.slice none 0 0));have x0 : ((w4.setCell ⟨w.heap.size, 0, none⟩ (.string ⟨#[]⟩)).setCell ⟨w.heap.size, 1, none⟩ (.slice none 0 0)).cell? ⟨w.heap.size, 0, none⟩ = some (.string ⟨#[]⟩) := X.at_ 0 rfl;have x1 : ((w4.setCell ⟨w.heap.size, 0, none⟩ (.string ⟨#[]⟩)).setCell ⟨w.heap.size, 1, none⟩ (.slice none 0 0)).cell? ⟨w.heap.size, 1, none⟩ = some (.slice none 0 0) := X.at_ 1 rfl;have hfin : Below w.heap.size w ((w4.setCell ⟨w.heap.size, 0, none⟩ (.string ⟨#[]⟩)).setCell ⟨w.heap.size, 1, none⟩ (.slice none 0 0)) := ((P4.from_ (hb0.trans (hb1.mono hb0.size)) (by omega)).setCell (Nat.le_refl _) _).setCell (Nat.le_refl _) _;clear X;generalize HW : ((w4.setCell ⟨w.heap.size, 0, none⟩ (.string ⟨#[]⟩)).setCell ⟨w.heap.size, 1, none⟩ (.slice none 0 0)) = W at x0 x1 hfin ⊢;refine bodyPost_ret (v := .tuple #[polV ⟨#[]⟩ none 0 0, .int .i64 22, .int .i64 (Jcd (ws.drop a))]) (by simp [results, Tryz.results54, go_sem, x0, x1]) rfl ⟨?_, hfin⟩;rw [HF.out]; rfl
        · have HN := zI (show ∀ ts', ts' = ts ++ [Jmm (txts (Jay a ws))] -> ∃ f, ws.length - (a + (Jay a ws).length) <= f /\ Jf9 nm.toList f (ws.drop (a + (Jay a ws).length)) ts' = Jcx ws from fun ts' e => ⟨f, by omega, by rw [e, <- HT.out, hok, if_pos rfl]⟩)
          clear HT
          go_wp2_with (first
           | (go_at_call 108; refine (Jjm _ _ _ _ HR.out.ps.mem.at_).mono ?_; rintro e w2 ⟨rfl, hb2⟩
              have P2 := zI (HR.out.ps.below hb2);have c0 := P2.out.bx.at_ 0 rfl)
           | (go_at_call 109; refine (Jio _ _ _ _ P2.out.mem.at_ hyes).mono ?_; rintro e w3 ⟨⟨tt, cc, rfl⟩, hb3⟩
              have P3 := zI ((P2.out.below hb3).below ((Below.refl _ _).alloc (Nat.le_refl _) (.cells #[.string tt, .int .i64 (Jcd (ws.drop a)), .int .i64 cc] 208)));have BW := Bx.new w3 208 #[.string tt, .int .i64 (Jcd (ws.drop a)), .int .i64 cc];have z1 := BW.at_ 1 rfl)
           | (go_at_call 111; refine (Jom w1 _ g gl a ws nm v ts P3.out HSZ.out).mono ?_; rw [hok]; rintro e w4 ⟨rfl, v', ts', P4, hts⟩
              have P5 := zI P4))
          go_roundw
          case rel => exact ⟨false, _, _, _, _, rfl, ⟨P5.out, fun e => (by cases e), fun _ => HN.out _ (hts (by trivial))⟩⟩
          case measure => rw [P5.out.cellA, HR.out.ps.cellA]; have := HLT.out; have := P5.out.le; simp [Jwf]; omega
    · have hae : a = ws.length := by omega
      have hgt : decide ((((ws.length - a : Nat) : Int)) > 0) = false := decide_eq_false (by omega)
      have HF := zI (show Jcx ws = .good nm.toList ts from by
       rw [<- htr, List.drop_of_length_le (by omega)];cases f <;> rfl)
      clear htr hae;obtain ⟨Av, cv, rfl, _, _⟩ := own_slice HR.out.ps.own
      go_wp2_with (first
       | (go_at_call 108; refine (Jjm _ _ _ _ HR.out.ps.mem.at_).mono ?_; rintro e w2 ⟨rfl, hb2⟩
          have P2 := HR.out.ps.below hb2;have c1 := P2.bx.at_ 1 rfl;have c2 := P2.bx.at_ 2 rfl;have b4 := P2.box b1 (by omega);have q0 := b4.at_ 0 rfl;have q1 := b4.at_ 1 rfl;have f0 := b4.free 0;have f1 := b4.free 1))
      have hown : ((w2.setCell ⟨w.heap.size, 0, none⟩ (.string nm)).setCell ⟨w.heap.size, 1, none⟩ (.slice Av ts.length cv)).ownsRow w.heap.size 119 4 (.slice Av ts.length cv) ts.length (ts.flatMap Ti.cells) := by
       have hlow : w.heap.size + 1 <= w1.heap.size := by have := b1.lt; omega
       refine Ji9 (Jbp (Jbp P2.own (fun k hk e => ?_) _) (fun k hk e => ?_) _) (by omega)
       · have := (P2.own.lt k hk).1; simp at e; omega
       · have := (P2.own.lt k hk).1; simp at e; omega
      have X := ((b4.set 0 (.string nm)).set 1 (.slice Av ts.length cv));have x0 : ((w2.setCell ⟨w.heap.size, 0, none⟩ (.string nm)).setCell ⟨w.heap.size, 1, none⟩ (.slice Av ts.length cv)).cell? ⟨w.heap.size, 0, none⟩ = some (.string nm) := X.at_ 0 rfl;have x1 : ((w2.setCell ⟨w.heap.size, 0, none⟩ (.string nm)).setCell ⟨w.heap.size, 1, none⟩ (.slice Av ts.length cv)).cell? ⟨w.heap.size, 1, none⟩ = some (.slice Av ts.length cv) := X.at_ 1 rfl;have hfin : Below w.heap.size w ((w2.setCell ⟨w.heap.size, 0, none⟩ (.string nm)).setCell ⟨w.heap.size, 1, none⟩ (.slice Av ts.length cv)) := ((P2.from_ (hb0.trans (hb1.mono hb0.size)) (by omega)).setCell (Nat.le_refl _) _).setCell (Nat.le_refl _) _;clear X;generalize HW : ((w2.setCell ⟨w.heap.size, 0, none⟩ (.string nm)).setCell ⟨w.heap.size, 1, none⟩ (.slice Av ts.length cv)) = W at x0 x1 hfin ⊢;refine bodyPost_ret (v := .tuple #[polV nm Av ts.length cv, .int .i64 0, .int .i64 0]) (by simp [results, Tryz.results54, go_sem, x0, x1]) rfl ⟨?_, hfin⟩;rw [HW] at hown;rw [HF.out];exact ⟨Av, cv, by rw [show (⟨nm.toList.toArray⟩ : ByteArray) = nm from by rw [ByteArray.toList_eq]], hown, P2.ok, by rw [Jab]; exact P2.size, P2.few⟩
  · obtain ⟨rfl, rfl⟩ := HR.out.one rfl
    have HL0 := zI (show Jay 0 ws = Jdb ws from Jfa 0 ws);have HD0 := zI (show ws.drop 0 = ws from rfl);cases hok : Jeu (txts (Jay 0 ws))
    · by_cases hyes : 0 < ws.length
      · have HF := zI (show Jcx ws = .bad 22 (Jcd (ws.drop 0)) from by unfold Jcx; rw [<- HL0.out, hok, HD0.out]; rfl)
        go_wp2_with (first
         | (go_at_call 109; refine (Jio _ _ _ _ HR.out.ps.mem.at_ hyes).mono ?_; rintro e w3 ⟨⟨tt, cc, rfl⟩, hb3⟩
            have P3 := zI ((HR.out.ps.below hb3).below ((Below.refl _ _).alloc (Nat.le_refl _) (.cells #[.string tt, .int .i64 (Jcd (ws.drop 0)), .int .i64 cc] 208)));have BW := Bx.new w3 208 #[.string tt, .int .i64 (Jcd (ws.drop 0)), .int .i64 cc];have z1 := BW.at_ 1 rfl)
         | (go_at_call 110; refine (Jmo w1 _ g gl 0 ws nm v [] P3.out HSZ.out).mono ?_; rw [hok]; rintro e w4 ⟨rfl, nm', P4, hnm⟩
            have b4 := P4.box b1 (by omega);have q0 := b4.at_ 0 rfl;have q1 := b4.at_ 1 rfl;have f0 := b4.free 0;have f1 := b4.free 1))
        have X := ((b4.set 0 (.string ⟨#[]⟩)).set 1 (.slice none 0 0));have x0 : ((w4.setCell ⟨w.heap.size, 0, none⟩ (.string ⟨#[]⟩)).setCell ⟨w.heap.size, 1, none⟩ (.slice none 0 0)).cell? ⟨w.heap.size, 0, none⟩ = some (.string ⟨#[]⟩) := X.at_ 0 rfl;have x1 : ((w4.setCell ⟨w.heap.size, 0, none⟩ (.string ⟨#[]⟩)).setCell ⟨w.heap.size, 1, none⟩ (.slice none 0 0)).cell? ⟨w.heap.size, 1, none⟩ = some (.slice none 0 0) := X.at_ 1 rfl;have hfin : Below w.heap.size w ((w4.setCell ⟨w.heap.size, 0, none⟩ (.string ⟨#[]⟩)).setCell ⟨w.heap.size, 1, none⟩ (.slice none 0 0)) := ((P4.from_ (hb0.trans (hb1.mono hb0.size)) (by omega)).setCell (Nat.le_refl _) _).setCell (Nat.le_refl _) _;clear X;generalize HW : ((w4.setCell ⟨w.heap.size, 0, none⟩ (.string ⟨#[]⟩)).setCell ⟨w.heap.size, 1, none⟩ (.slice none 0 0)) = W at x0 x1 hfin ⊢;refine bodyPost_ret (v := .tuple #[polV ⟨#[]⟩ none 0 0, .int .i64 22, .int .i64 (Jcd (ws.drop 0))]) (by simp [results, Tryz.results54, go_sem, x0, x1]) rfl ⟨?_, hfin⟩;rw [HF.out]; rfl
      · have HF := zI (show Jcx ws = .bad 22 1 from by
         have : ws = [] := List.eq_nil_of_length_eq_zero (by omega);unfold Jcx; rw [<- HL0.out, hok, this]; rfl)
        go_wp2_with (first
         | (go_at_call 109; refine (J3i _ _ _ _ HR.out.ps.mem.at_ hyes).mono ?_; rintro e w3 ⟨⟨tt, ll, cc, rfl⟩, hb3⟩
            have P3 := zI ((HR.out.ps.below hb3).below ((Below.refl _ _).alloc (Nat.le_refl _) (.cells #[.string tt, .int .i64 ll, .int .i64 cc] 208))))
         | (go_at_call 110; refine (Jmo w1 _ g gl 0 ws nm v [] P3.out HSZ.out).mono ?_; rw [hok]; rintro e w4 ⟨rfl, nm', P4, hnm⟩
            have b4 := P4.box b1 (by omega);have q0 := b4.at_ 0 rfl;have q1 := b4.at_ 1 rfl;have f0 := b4.free 0;have f1 := b4.free 1))
        have X := ((b4.set 0 (.string ⟨#[]⟩)).set 1 (.slice none 0 0));have x0 : ((w4.setCell ⟨w.heap.size, 0, none⟩ (.string ⟨#[]⟩)).setCell ⟨w.heap.size, 1, none⟩ (.slice none 0 0)).cell? ⟨w.heap.size, 0, none⟩ = some (.string ⟨#[]⟩) := X.at_ 0 rfl;have x1 : ((w4.setCell ⟨w.heap.size, 0, none⟩ (.string ⟨#[]⟩)).setCell ⟨w.heap.size, 1, none⟩ (.slice none 0 0)).cell? ⟨w.heap.size, 1, none⟩ = some (.slice none 0 0) := X.at_ 1 rfl;have hfin : Below w.heap.size w ((w4.setCell ⟨w.heap.size, 0, none⟩ (.string ⟨#[]⟩)).setCell ⟨w.heap.size, 1, none⟩ (.slice none 0 0)) := ((P4.from_ (hb0.trans (hb1.mono hb0.size)) (by omega)).setCell (Nat.le_refl _) _).setCell (Nat.le_refl _) _;clear X;generalize HW : ((w4.setCell ⟨w.heap.size, 0, none⟩ (.string ⟨#[]⟩)).setCell ⟨w.heap.size, 1, none⟩ (.slice none 0 0)) = W at x0 x1 hfin ⊢;refine bodyPost_ret (v := .tuple #[polV ⟨#[]⟩ none 0 0, .int .i64 22, .int .i64 1]) (by simp [results, Tryz.results54, go_sem, x0, x1]) rfl ⟨?_, hfin⟩;rw [HF.out]; rfl
    · have hyes : 0 < ws.length := by
       rcases Nat.eq_zero_or_pos ws.length with h0 | h0
       · have e := List.eq_nil_of_length_eq_zero h0
         rw [HL0.out, e] at hok; exact absurd hok (by decide)
       · exact h0
      have HN := zI (show ∀ nm', nm' = (⟨(txt (txts (Jay 0 ws)) 1).toArray⟩ : ByteArray) -> Jf9 nm'.toList ws.length (ws.drop (0 + (Jay 0 ws).length)) [] = Jcx ws from fun nm' e => by
       unfold Jcx;rw [e, toList_mk, <- HL0.out, hok, if_pos rfl, Nat.zero_add, HL0.out]; rfl)
      go_wp2_with (first
       | (go_at_call 109; refine (Jio _ _ _ _ HR.out.ps.mem.at_ hyes).mono ?_; rintro e w3 ⟨⟨tt, cc, rfl⟩, hb3⟩
          have P3 := zI ((HR.out.ps.below hb3).below ((Below.refl _ _).alloc (Nat.le_refl _) (.cells #[.string tt, .int .i64 (Jcd (ws.drop 0)), .int .i64 cc] 208)));have BW := Bx.new w3 208 #[.string tt, .int .i64 (Jcd (ws.drop 0)), .int .i64 cc];have z1 := BW.at_ 1 rfl)
       | (go_at_call 110; refine (Jmo w1 _ g gl 0 ws nm v [] P3.out HSZ.out).mono ?_; rw [hok]; rintro e w4 ⟨rfl, nm', P4, hnm⟩
          have P5 := zI P4))
      go_roundw
      case rel => exact ⟨false, _, _, _, _, rfl, ⟨P5.out, fun e => (by cases e), fun _ => ⟨ws.length, by omega, HN.out _ (hnm (by trivial))⟩⟩⟩
      case measure => rw [P5.out.cellA, HR.out.ps.cellA]; simp [Jwf]; omega
end Go.Proofs.YtalkkhafcfhglaaGreatDoor.Py
