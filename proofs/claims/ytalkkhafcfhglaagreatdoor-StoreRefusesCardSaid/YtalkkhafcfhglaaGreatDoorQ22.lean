/-
  Several texts in one: PolRead, PolSame, PolAlive, Bd8, PolTwice, StaB.
-/
import Derived.Test.YtalkkhafcfhglaaGreatDoorQ21
set_option maxRecDepth 100000
set_option maxHeartbeats 4000000
namespace Go.Proofs.YtalkkhafcfhglaaGreatDoor.Py
open Go.ChangeShapes Go.WideShapes Go.ChangeAt Go.RowKit Go.Deep
def readT (s : ByteArray) : Rd := match Jdc s with
 | .bad e a => .bad e a
 | .good nm ts => if (checkR nm ts).1 = 0 then .good nm ts else .bad (checkR nm ts).1 (checkR nm ts).2
theorem Jlc (nm : List UInt8) : ∀ (f : Nat) (l : List Wd) (acc : List Ti) (e a : Int), Jf9 nm f l acc = .bad e a -> e = 22
 | 0, _, _, _, _, h => by simp [Jf9] at h
 | f + 1, l, acc, e, a, h => by
   unfold Jf9 at h;split at h
   · cases h
   · split at h
     · exact Jlc nm f _ _ e a h
     · injection h with h1 _; exact h1.symm
theorem Jt1 {s : ByteArray} {e a : Int} (h : Jdc s = .bad e a) : e = 2 \/ e = 22 := by
 unfold Jdc at h;split at h
 · injection h with h1 _; exact .inl h1.symm
 · split at h
   · injection h with h1 _; exact .inr h1.symm
   · unfold Jcx at h
     split at h
     · exact .inr (Jlc _ _ _ _ _ _ h)
     · injection h with h1 _; exact .inr h1.symm
theorem read_any (s : ByteArray) (w : World) (hs : s.size <= maxLen) (hm : ∃ m : Int, w.cell? ⟨0, 0, none⟩ = some (.int .i64 m)) :
  Calls Tryz.prog 25 #[.string s] w fun e w' => Jdd (readT s) w.heap.size e w' /\ Below w.heap.size w w' := by
 have hlt0 : 0 < w.heap.size := by obtain ⟨m, h⟩ := hm; have := block_lt_of_cell h; simpa using this
 have hb0 : Below w.heap.size w (w.alloc (.cells #[.string ByteArray.empty, .slice none 0 0] 63)) := (Below.refl _ w).alloc (Nat.le_refl _) _;have b0 := Bx.new w 63 #[.string ByteArray.empty, .slice none 0 0];have HC := zI (Jwg s (w.alloc (.cells #[.string ByteArray.empty, .slice none 0 0] 63)) hs (hm.imp fun m h => (hb0.cell (p := ⟨0, 0, none⟩) hlt0).trans h));cases hP : Jdc s with
 | bad k at_ =>
   have hk := Jt1 hP;have HF := zI (show readT s = .bad k at_ from by unfold readT; rw [hP]);rw [hP] at HC;unfold Jdd at HC;rw [HF.out];unfold Jdd;have hk' : (k != 0) = true := bne_iff_ne.2 (by omega);clear hk hP HF;go_enter Tryz.func25, Tryz.ntmps25
   go_wp2_with (first
    | (go_at_call 54; refine HC.out.mono ?_; rintro e w1 ⟨rfl, hb1⟩
       have hba := (Below.refl w1.heap.size w1).alloc (Nat.le_refl _) (.cells #[.string ByteArray.empty, .slice none 0 0] 63);have b1 := (b0.below hb1).below hba;have bp := Bx.new w1 63 #[.string ByteArray.empty, .slice none 0 0];have hbw := (hb0.trans (hb1.mono hb0.size)).trans (hba.mono (hb0.trans (hb1.mono hb0.size)).size);have q0 := b1.at_ 0 rfl;have q1 := b1.at_ 1 rfl;have f0 := b1.free 0;have f1 := b1.free 1))
   have X := ((b1.set 0 (.string ⟨#[]⟩)).set 1 (.slice none 0 0));have x0 : (((w1.alloc (.cells #[.string ByteArray.empty, .slice none 0 0] 63)).setCell ⟨w.heap.size, 0, none⟩ (.string ⟨#[]⟩)).setCell ⟨w.heap.size, 1, none⟩ (.slice none 0 0)).cell? ⟨w.heap.size, 0, none⟩ = some (.string ⟨#[]⟩) := X.at_ 0 rfl;have x1 : (((w1.alloc (.cells #[.string ByteArray.empty, .slice none 0 0] 63)).setCell ⟨w.heap.size, 0, none⟩ (.string ⟨#[]⟩)).setCell ⟨w.heap.size, 1, none⟩ (.slice none 0 0)).cell? ⟨w.heap.size, 1, none⟩ = some (.slice none 0 0) := X.at_ 1 rfl;have hfin : Below w.heap.size w (((w1.alloc (.cells #[.string ByteArray.empty, .slice none 0 0] 63)).setCell ⟨w.heap.size, 0, none⟩ (.string ⟨#[]⟩)).setCell ⟨w.heap.size, 1, none⟩ (.slice none 0 0)) := (hbw.setCell (Nat.le_refl _) _).setCell (Nat.le_refl _) _;clear X;generalize HW : (((w1.alloc (.cells #[.string ByteArray.empty, .slice none 0 0] 63)).setCell ⟨w.heap.size, 0, none⟩ (.string ⟨#[]⟩)).setCell ⟨w.heap.size, 1, none⟩ (.slice none 0 0)) = W at x0 x1 hfin ⊢;refine bodyPost_ret (v := .tuple #[polV ⟨#[]⟩ none 0 0, .int .i64 k, .int .i64 at_]) (by simp [results, Tryz.results25, go_sem, x0, x1]) rfl ⟨?_, hfin⟩;rfl
 | good nm ts =>
   have HR := zI (show readT s = if (checkR nm ts).1 = 0 then .good nm ts else .bad (checkR nm ts).1 (checkR nm ts).2 from by unfold readT; rw [hP]);rw [hP] at HC;unfold Jdd at HC;by_cases hz : (checkR nm ts).1 = 0
   · have hck := Jgl hz
     have HF := zI (show readT s = .good nm ts from by rw [HR.out, if_pos hz]);rw [HF.out];unfold Jdd;clear HR hP hz HF;go_enter Tryz.func25, Tryz.ntmps25
     go_wp2_with (first
      | (go_at_call 54; refine HC.out.mono ?_; rintro e w1 ⟨⟨A, c, rfl, hown, hok, hnl, htl⟩, hb1⟩
         have hba := (Below.refl w1.heap.size w1).alloc (Nat.le_refl _) (.cells #[.string ⟨nm.toArray⟩, .slice A ts.length c] 63);have b1 := (b0.below hb1).below hba;have bp := Bx.new w1 63 #[.string ⟨nm.toArray⟩, .slice A ts.length c];have hbw := (hb0.trans (hb1.mono hb0.size)).trans (hba.mono (hb0.trans (hb1.mono hb0.size)).size);have q0 := b1.at_ 0 rfl;have q1 := b1.at_ 1 rfl;have f0 := b1.free 0;have f1 := b1.free 1;have hsz : (⟨nm.toArray⟩ : ByteArray).size <= maxLen := by rw [<- Jab, toList_mk]; unfold maxLen; omega
         have HOWN := zI hown;have HTI := zI (show Tis w1 A ts.length ts from by obtain ⟨A', c', e, hh⟩ := Jhw hown rfl hok (by unfold maxLen; omega); cases e; exact hh);have hac : ts.length <= c := by obtain ⟨_, _, e, h, _⟩ := own_slice hown; cases e; exact h
         clear hown)
      | (go_at_call 55; refine (check_any ⟨nm.toArray⟩ A ts.length c ts _ hsz (HTI.out.below hba) hac).mono ?_; rw [toList_mk, hck]; rintro e w2 ⟨rfl, hb2⟩
         have b4 := b1.below hb2;have bq := bp.below hb2;have r0 := bq.at_ 0 rfl;have r1 := bq.at_ 1 rfl;have q0 := b4.at_ 0 rfl;have q1 := b4.at_ 1 rfl;have f0 := b4.free 0;have f1 := b4.free 1))
     have hown2 : ((w2.setCell ⟨w.heap.size, 0, none⟩ (.string ⟨nm.toArray⟩)).setCell ⟨w.heap.size, 1, none⟩ (.slice A ts.length c)).ownsRow w.heap.size 119 4 (.slice A ts.length c) ts.length (ts.flatMap Ti.cells) := by
      have ho := own_below (own_below HOWN.out hba) hb2;refine Ji9 (Jbp (Jbp ho (fun k hk e => ?_) _) (fun k hk e => ?_) _) (by simp)
      · have := (ho.lt k hk).1; simp at this e; omega
      · have := (ho.lt k hk).1; simp at this e; omega
     have X := ((b4.set 0 (.string ⟨nm.toArray⟩)).set 1 (.slice A ts.length c));have x0 : ((w2.setCell ⟨w.heap.size, 0, none⟩ (.string ⟨nm.toArray⟩)).setCell ⟨w.heap.size, 1, none⟩ (.slice A ts.length c)).cell? ⟨w.heap.size, 0, none⟩ = some (.string ⟨nm.toArray⟩) := X.at_ 0 rfl;have x1 : ((w2.setCell ⟨w.heap.size, 0, none⟩ (.string ⟨nm.toArray⟩)).setCell ⟨w.heap.size, 1, none⟩ (.slice A ts.length c)).cell? ⟨w.heap.size, 1, none⟩ = some (.slice A ts.length c) := X.at_ 1 rfl;have hfin : Below w.heap.size w ((w2.setCell ⟨w.heap.size, 0, none⟩ (.string ⟨nm.toArray⟩)).setCell ⟨w.heap.size, 1, none⟩ (.slice A ts.length c)) := ((hbw.trans (hb2.mono hbw.size)).setCell (Nat.le_refl _) _).setCell (Nat.le_refl _) _;clear X;generalize HW : ((w2.setCell ⟨w.heap.size, 0, none⟩ (.string ⟨nm.toArray⟩)).setCell ⟨w.heap.size, 1, none⟩ (.slice A ts.length c)) = W at x0 x1 hfin ⊢;refine bodyPost_ret (v := .tuple #[polV ⟨nm.toArray⟩ A ts.length c, .int .i64 0, .int .i64 0]) (by simp [results, Tryz.results25, go_sem, x0, x1]) rfl ⟨?_, hfin⟩;rw [HW] at hown2;exact ⟨A, c, rfl, hown2, hok, hnl, htl⟩
   · have HF := zI (show readT s = .bad (checkR nm ts).1 (checkR nm ts).2 from by rw [HR.out, if_neg hz])
     rw [HF.out];unfold Jdd;have hz' : ((checkR nm ts).1 != 0) = true := bne_iff_ne.2 hz;clear HR hP hz HF;go_enter Tryz.func25, Tryz.ntmps25
     go_wp2_with (first
      | (go_at_call 54; refine HC.out.mono ?_; rintro e w1 ⟨⟨A, c, rfl, hown, hok, hnl, htl⟩, hb1⟩
         have hba := (Below.refl w1.heap.size w1).alloc (Nat.le_refl _) (.cells #[.string ⟨nm.toArray⟩, .slice A ts.length c] 63);have b1 := (b0.below hb1).below hba;have bp := Bx.new w1 63 #[.string ⟨nm.toArray⟩, .slice A ts.length c];have hbw := (hb0.trans (hb1.mono hb0.size)).trans (hba.mono (hb0.trans (hb1.mono hb0.size)).size);have q0 := b1.at_ 0 rfl;have q1 := b1.at_ 1 rfl;have f0 := b1.free 0;have f1 := b1.free 1;have hsz : (⟨nm.toArray⟩ : ByteArray).size <= maxLen := by rw [<- Jab, toList_mk]; unfold maxLen; omega
         have HOWN := zI hown;have HTI := zI (show Tis w1 A ts.length ts from by obtain ⟨A', c', e, hh⟩ := Jhw hown rfl hok (by unfold maxLen; omega); cases e; exact hh);have hac : ts.length <= c := by obtain ⟨_, _, e, h, _⟩ := own_slice hown; cases e; exact h
         clear hown)
      | (go_at_call 55; refine (check_any ⟨nm.toArray⟩ A ts.length c ts _ hsz (HTI.out.below hba) hac).mono ?_; rw [toList_mk]; rintro e w2 ⟨rfl, hb2⟩
         have b4 := b1.below hb2;have q0 := b4.at_ 0 rfl;have q1 := b4.at_ 1 rfl;have f0 := b4.free 0;have f1 := b4.free 1))
     have X := ((b4.set 0 (.string ⟨#[]⟩)).set 1 (.slice none 0 0));have x0 : ((w2.setCell ⟨w.heap.size, 0, none⟩ (.string ⟨#[]⟩)).setCell ⟨w.heap.size, 1, none⟩ (.slice none 0 0)).cell? ⟨w.heap.size, 0, none⟩ = some (.string ⟨#[]⟩) := X.at_ 0 rfl;have x1 : ((w2.setCell ⟨w.heap.size, 0, none⟩ (.string ⟨#[]⟩)).setCell ⟨w.heap.size, 1, none⟩ (.slice none 0 0)).cell? ⟨w.heap.size, 1, none⟩ = some (.slice none 0 0) := X.at_ 1 rfl;have hfin : Below w.heap.size w ((w2.setCell ⟨w.heap.size, 0, none⟩ (.string ⟨#[]⟩)).setCell ⟨w.heap.size, 1, none⟩ (.slice none 0 0)) := ((hbw.trans (hb2.mono hbw.size)).setCell (Nat.le_refl _) _).setCell (Nat.le_refl _) _;clear X;generalize HW : ((w2.setCell ⟨w.heap.size, 0, none⟩ (.string ⟨#[]⟩)).setCell ⟨w.heap.size, 1, none⟩ (.slice none 0 0)) = W at x0 x1 hfin ⊢;refine bodyPost_ret (v := .tuple #[polV ⟨#[]⟩ none 0 0, .int .i64 (checkR nm ts).1, .int .i64 (checkR nm ts).2]) (by simp [results, Tryz.results25, go_sem, x0, x1]) rfl ⟨?_, hfin⟩;rfl
def tiE (x y : Ti) : Bool := decide (x.nm = y.nm) && (decide (x.ev = y.ev) && (decide (x.kp = y.kp) && decide (x.sh = y.sh)))
theorem J3n {x y : Ti} : tiE x y = true ↔ x = y := by
 obtain ⟨a, b, c, d⟩ := x;obtain ⟨e, f, g, h⟩ := y;simp [tiE]
def Jdi : List Ti -> List Ti -> Bool
 | [], [] => true
 | x :: r, y :: q => tiE x y && Jdi r q
 | _, _ => false
theorem Jfv : ∀ {a b : List Ti}, Jdi a b = true ↔ a = b
 | [], [] => by simp [Jdi]
 | [], y :: q => by simp [Jdi]
 | x :: r, [] => by simp [Jdi]
 | x :: r, y :: q => by simp [Jdi, J3n, Jfv (a := r) (b := q)]
theorem Jow {a b : List Ti} (h : a ≠ b) : Jdi a b = false := by
 cases hh : Jdi a b
 · rfl
 · exact absurd (Jfv.1 hh) h
theorem Jt2 (A B : Option Addr) (n m c d : Nat) (a b : List Ti) (w : World) (hA : Tis w A n a) (hB : Tis w B m b) : Calls Tryz.prog 176 #[.slice A n c, .slice B m d] w fun e w' => e = .returned (.bool (Jdi a b)) /\ ∃ q, w' = w.drewN q := by
 have hn := hA.n_le;unfold maxLen at hn;have HL := zI hA.len;have HM := zI hB.len;by_cases hnm : n = m
 · subst hnm
   go_enter Tryz.func176, Tryz.ntmps176;go_wp2;obtain ⟨w6, hw6⟩ : ∃ w6, w6 = w := ⟨_, rfl⟩;subst hw6;go_loopw [5, 13] (fun _ i wr => ∃ j : Nat, j <= n /\ i = .int .i64 j /\ Below w6.heap.size w6 wr /\ Hid (∃ q, wr = w6.drewN q) /\ Hid (∀ i, i < j -> a[i]? = b[i]?)) (fun _ i _ => n - (intOf i).toNat)
   case atStart => exact ⟨0, Nat.zero_le _, rfl, Below.refl _ _, zI ⟨0, rfl⟩, zI (fun i hi => absurd hi (by omega))⟩
   case round =>
    obtain ⟨j, hj, rfl, hbel, HQ, HE⟩ := hrel;by_cases hlt : j < n
    · have K : j < a.length := by rw [HL.out]; exact hlt
      have K2 : j < b.length := by rw [HM.out]; exact hlt
      obtain ⟨g1, o1, rfl, hb, X⟩ := (hA.below hbel).get K;obtain ⟨r0, r1, r2, r3⟩ := X;obtain ⟨g2, o2, rfl, hb2, Y⟩ := (hB.below hbel).get K2;obtain ⟨s0, s1, s2, s3⟩ := Y;have HX := zI (show a[j]? = some (a[j]'K) from List.getElem?_eq_getElem K);have HY := zI (show b[j]? = some (b[j]'K2) from List.getElem?_eq_getElem K2);generalize a[j]'K = x at *;generalize b[j]'K2 = y at *;have g0 : (0 : Int) <= (j : Int) := (by omega);have g1 : (j : Int) < (n : Int) := (by omega);by_cases hxy : x = y
      · have HN := zI (show ∀ i, i < j + 1 -> a[i]? = b[i]? from fun i hi => by
         by_cases e : i = j
         · rw [e, HX.out, HY.out, hxy]
         · exact HE.out i (by omega))
        subst hxy;go_wp2;go_quiet (fail)
        go_wp2;go_roundw
        case rel => exact ⟨j + 1, by omega, by go_num, below_drewN hbel _, zI (by obtain ⟨q, hq⟩ := HQ.out; exact ⟨q + nq, by rw [hq, World.drewN_drewN]⟩), HN⟩
        case measure => simp [intOf]; omega
      · have HF := zI (show Jdi a b = false from Jow (fun e => hxy (by have := HX.out; rw [e, HY.out] at this; injection this with this; exact this.symm)))
        have fin : ∀ v, v = Value.bool false -> ∀ W q, W = wr.drewN q -> Ending.returned v = .returned (.bool (Jdi a b)) /\ ∃ q, W = w6.drewN q := by
         rintro v rfl W q rfl;exact ⟨Jag HF.out.symm, by obtain ⟨q', hq⟩ := HQ.out; exact ⟨q' + q, by rw [hq, World.drewN_drewN]⟩⟩
        have FIN := zI fin;clear fin HF HE HQ hA hB;obtain ⟨x0, x1, x2, x3⟩ := x;obtain ⟨y0, y1, y2, y3⟩ := y;simp only at r0 r1 r2 r3 s0 s1 s2 s3;by_cases h0 : x0 = y0
        · subst h0
          by_cases h1 : x1 = y1
          · subst h1
            by_cases h2 : x2 = y2
            · subst h2
              have h3 : (x3 == y3) = false := beq_eq_false_iff_ne.2 (fun e => hxy (by rw [e]));clear hxy;go_wp2;go_quiet (fail)
              go_wp2;go_ret;exact FIN.out _ rfl _ _ rfl
            · have h2' : (x2 == y2) = false := beq_eq_false_iff_ne.2 h2
              clear hxy h2;go_wp2;go_quiet (fail)
              go_wp2;go_ret;exact FIN.out _ rfl _ _ rfl
          · have h1' : (x1 == y1) = false := beq_eq_false_iff_ne.2 h1
            clear hxy h1;go_wp2;go_quiet (fail)
            go_wp2;go_ret;exact FIN.out _ rfl _ _ rfl
        · have h0' : (x0.toList == y0.toList) = false := beq_eq_false_iff_ne.2 (fun e => h0 (by
           rw [ByteArray.toList_eq, ByteArray.toList_eq] at e;exact ByteArray.ext (Array.ext' e)))
          clear hxy h0;go_wp2;go_quiet (fail)
          go_wp2;go_ret;exact FIN.out _ rfl _ _ rfl
    · have hd : decide ((j : Int) < (n : Int)) = false := decide_eq_false (by omega)
      have HF := zI (show Jdi a b = true from Jfv.2 (List.ext_getElem? fun i => by
       by_cases hi : i < j
       · exact HE.out i hi
       · rw [List.getElem?_eq_none (by rw [HL.out]; omega), List.getElem?_eq_none (by rw [HM.out]; omega)]))
      go_wp2;go_ret;exact ⟨Jag HF.out.symm, HQ.out⟩
 · have HF := zI (show Jdi a b = false from Jow (fun e => hnm (by rw [<- HL.out, <- HM.out, e])))
   have hnm' : ¬ (n : Int) = (m : Int) := by omega
   go_enter Tryz.func176, Tryz.ntmps176;go_wp2;go_ret;exact ⟨Jag HF.out.symm, 0, rfl⟩
def sameP (x y : ByteArray) (a b : List Ti) : Bool := decide (x = y) && Jdi a b
theorem sameP_iff {x y : ByteArray} {a b : List Ti} : sameP x y a b = true ↔ x = y /\ a = b := by unfold sameP; rw [Bool.and_eq_true, decide_eq_true_eq, Jfv]
theorem J3o {x y : ByteArray} (h : x.toList = y.toList) : x = y := by
 rw [ByteArray.toList_eq, ByteArray.toList_eq] at h;exact ByteArray.ext (Array.ext' h)
theorem same_any (x y : ByteArray) (A B : Option Addr) (n m c d : Nat) (a b : List Ti) (w : World) (hA : Tis w A n a) (hB : Tis w B m b) : Calls Tryz.prog 101 #[polV x A n c, polV y B m d] w fun e w' => e = .returned (.bool (sameP x y a b)) /\ Below w.heap.size w w' := by
 have hb : Below w.heap.size w ((w.alloc (.cells #[.string x, .slice A n c] 63)).alloc (.cells #[.string y, .slice B m d] 63)) := ((Below.refl _ _).alloc (Nat.le_refl _) _).alloc (by simp) _;have HE := zI (fun q => Jt2 A B n m c d a b _ ((hA.below hb).below (below_drewN (Below.refl _ _) q)) ((hB.below hb).below (below_drewN (Below.refl _ _) q)));clear hA hB;by_cases h : x = y
 · subst h
   have HF := zI (show sameP x x a b = Jdi a b from by unfold sameP; rw [decide_eq_true rfl]; rfl);go_enter Tryz.func101, Tryz.ntmps101;go_wp2_with (go_at_call 176; refine (HE.out 0).mono ?_; rintro e w1 ⟨rfl, q, rfl⟩)
   go_ret;exact ⟨Jag HF.out.symm, below_drewN hb _⟩
 · have HF := zI (show sameP x y a b = false from by unfold sameP; rw [decide_eq_false h]; rfl)
   have h0 : (x.toList == y.toList) = false := beq_eq_false_iff_ne.2 (fun e => h (J3o e));clear h;go_enter Tryz.func101, Tryz.ntmps101;go_wp2_with fail
   go_ret;exact ⟨Jag HF.out.symm, hb⟩
def webTs : List Ti := [⟨⟨#[114, 97, 119]⟩, 1, 100, 2⟩, ⟨⟨#[116, 101, 110, 115]⟩, 10, 1000, 1⟩]
def webNm : List UInt8 := [119, 101, 98]
def webB : ByteArray := ⟨([112, 111, 108, 105, 99, 121, 32, 119, 101, 98, 10, 116, 105, 101, 114, 32, 114, 97, 119, 32, 101, 118, 101, 114, 121, 32, 49, 32, 107, 101, 101, 112, 32, 49, 48, 48, 32, 115, 104, 97, 114, 100].append [115, 32, 50, 10, 116, 105, 101, 114, 32, 116, 101, 110, 115, 32, 101, 118, 101, 114, 121, 32, 49, 48, 32, 107, 101, 101, 112, 32, 49, 48, 48, 48, 32, 115, 104, 97, 114, 100, 115, 32, 49, 10]).toArray⟩
theorem web_check : checkR webNm webTs = (0, 0) := by decide +kernel
theorem Jqi {u : Nat} (h : ¬ u < 10) : Lib.decDigits u = Lib.decDigits (u / 10) ++ [UInt8.ofNat (48 + u % 10)] := by rw [Lib.decDigits, dif_neg h]
theorem Jwo : printL webNm webTs = webB.toList := by
 have d1 : Lib.itoa 1 = [49] := by rw [Jcn (by decide)]; exact Lib.decDigits_one (by decide)
 have d2 : Lib.itoa 2 = [50] := by rw [Jcn (by decide)]; exact Lib.decDigits_one (by decide)
 have d10 : Lib.itoa 10 = [49, 48] := by rw [Jcn (by decide)]; exact Lib.decDigits_two (by decide) (by decide)
 have d100 : Lib.itoa 100 = [49, 48, 48] := by
  rw [Jcn (by decide)];show Lib.decDigits 100 = _;rw [Jqi (by decide), Lib.decDigits_two (by decide) (by decide)]; rfl
 have d1000 : Lib.itoa 1000 = [49, 48, 48, 48] := by
  rw [Jcn (by decide)];show Lib.decDigits 1000 = _;rw [Jqi (by decide), Jqi (by decide), Lib.decDigits_two (by decide) (by decide)]; rfl
 unfold printL webTs Jff;simp only [List.flatMap_cons, List.flatMap_nil, d1, d2, d10, d100, d1000, ByteArray.toList_eq];rfl
theorem Jqj : ∀ t ∈ webTs, t.Fine := (check_fine web_check).2.2.2.1
theorem web_read : readT webB = .good webNm webTs := by
 have h := Jk9 webNm webTs webB (by decide) (by decide +kernel) Jqj (by decide) (Jwo ▸ Exp.refl _);unfold readT;rw [h];simp only [web_check];rfl
end Go.Proofs.YtalkkhafcfhglaaGreatDoor.Py
namespace Go.Proofs.YtalkkhafcfhglaaGreatDoor.Py
open Go.RowKit
theorem Jp6 {z : Int} (h : (Lit.int .i64 z).wf = true) : -9223372036854775808 <= z /\ z <= 9223372036854775807 := by
 have : IntKind.i64.min = -9223372036854775808 /\ IntKind.i64.max = 9223372036854775807 := by decide
 simpa [Lit.wf, this.1, this.2] using h
open Go.ChangeAt Go.ChangeShapes Go.Deep Go.WideShapes
theorem mk_toList (s : ByteArray) : (⟨s.toList.toArray⟩ : ByteArray) = s := by rw [ByteArray.toList_eq]
theorem readT_print {nm : List UInt8} {ts : List Ti} (h : checkR nm ts = (0, 0)) : readT ⟨(printL nm ts).toArray⟩ = .good nm ts := by
 obtain ⟨hv, h1, h5, hf, _⟩ := check_fine h;have hs : (⟨(printL nm ts).toArray⟩ : ByteArray).size <= 4000 := by rw [<- Jab, toList_mk]; have := print_len hv hf h5; omega
 have e := Jk9 nm ts ⟨(printL nm ts).toArray⟩ hs hv hf h5 (by rw [toList_mk]; exact Exp.refl _);unfold readT;rw [e];simp only [h];rfl
theorem readT_good {s : ByteArray} {nm : List UInt8} {ts : List Ti} (h : readT s = .good nm ts) : checkR nm ts = (0, 0) := by
 unfold readT at h;cases hp : Jdc s with
 | bad e a => rw [hp] at h; cases h
 | good nm' ts' =>
   rw [hp] at h;simp only at h;split at h
   · next hz => cases h; exact Jgl hz
   · cases h
theorem printP_any (nm : ByteArray) (A : Option Addr) (n c : Nat) (ts : List Ti) (w : World) (hck : checkR nm.toList ts = (0, 0)) (h : Tis w A n ts) (hc : n <= c) (htab : Lib.TabIs Tryz.prog w "internal/strconv.uint64pow10" .u64 Lib.pow10Tab) :
  Calls Tryz.prog 203 #[polV nm A n c] w fun e w' => e = .returned (.tuple #[.string ⟨(printL nm.toList ts).toArray⟩, .int .i64 0]) /\ Below w.heap.size w w' := by
 have hn : nm.size <= maxLen := by
  have hv := (check_fine hck).1;unfold Jak at hv;simp only [Bool.and_eq_true, decide_eq_true_eq] at hv;rw [<- Jab]; unfold maxLen; omega
 have X := Jwn nm A n c ts w hn h hc htab;rw [hck, show Jou nm.toList ts = printL nm.toList ts from by unfold Jou; rw [hck, if_pos rfl]] at X;exact X
end Go.Proofs.YtalkkhafcfhglaaGreatDoor.Py
namespace Go.Proofs.YtalkkhafcfhglaaGreatDoor
open Go.RowKit
def Tv.new (nm : ByteArray) (ts : List Ti) (now : Int) : Tv := ⟨⟨now, nm, ts, []⟩, List.replicate ts.length []⟩
theorem Jip (room : Nat) (s : ByteArray) (nm : List UInt8) (ts : List Ti) (w : World) (hr : room <= 4096) (hs : s.size <= maxLen) (hP : Py.readT s = .good nm ts) (hm : ∃ m : Int, w.cell? ⟨0, 0, none⟩ = some (.int .i64 m)) :
  Calls Tryz.prog 7 #[.int .i64 (room : Int), .string s] w fun e w' => ∃ g, e = .returned (.tuple #[.pointer (some ⟨g, 0, none⟩), .int .i64 0]) /\ StAt w' (made w w') g room (Tv.new ⟨nm.toArray⟩ ts 0) /\ Below w.heap.size w w' := by
 have hck := Py.readT_good hP;obtain ⟨_, h1, h5, hf, _⟩ := Py.check_fine hck;have HRI := zI (Jkv (room : Int) w (by omega));have HCK := zI hck;have HF := zI hf;obtain ⟨n, hn⟩ : ∃ n, n = ts.length := ⟨_, rfl⟩;rw [<- hn] at h1 h5;have HN := zI hn
 have HRD : Hid (Calls Tryz.prog 25 #[.string s] w fun e w' => (∃ A c, e = .returned (.tuple #[polV ⟨nm.toArray⟩ A n c, .int .i64 0, .int .i64 0]) /\ w'.ownsRow w.heap.size 119 4 (.slice A n c) n (ts.flatMap Ti.cells) /\ (∀ t ∈ ts, t.Ok) /\ nm.length <= 4000) /\ Below w.heap.size w w') := by
  have X := Py.read_any s w hs hm;rw [hP] at X;refine zI (X.mono ?_);rintro e w' ⟨⟨A, c, he, ho, hok, hnl, _⟩, hb⟩;rw [<- hn] at he ho;exact ⟨⟨A, c, he, ho, hok, hnl⟩, hb⟩
 clear hck hP hf hm hn;go_enter Tryz.func7, Tryz.ntmps7;go_wp2_with fail
 refine HRI.out.mono ?_;rintro e w1 ⟨rfl, hw⟩;subst hw;go_wp2_with fail
 refine HRD.out.mono ?_;rintro e w1 ⟨⟨A, c, rfl, ho, hok, hnl⟩, hb1⟩;have hT1 : Tis w1 A n ts := by obtain ⟨A', c', e, hh⟩ := Jhw ho HN.out.symm hok (by unfold maxLen; omega); cases e; exact hh
 have hc1 : n <= c := by obtain ⟨_, _, e, h, _⟩ := Py.own_slice ho; cases e; exact h
 have hba := (Below.refl w1.heap.size w1).alloc (Nat.le_refl _) (.cells #[.string ⟨nm.toArray⟩, .slice A n c] 63);have HT2 := zI (hT1.below hba);have HB2 := zI (hb1.trans (hba.mono hb1.size));have hnm : (⟨nm.toArray⟩ : ByteArray).size <= maxLen := by rw [<- Jab, Py.toList_mk]; unfold maxLen; omega
 have HNW := zI (Jv1 ⟨nm.toArray⟩ A n c ts 0 none 0 0 [] _ (fun W hW => by
   refine (Py.check_any ⟨nm.toArray⟩ A n c ts W hnm hW hc1).mono ?_;rintro e w' ⟨he, hb⟩;rw [Py.toList_mk, HCK.out] at he;exact ⟨he, hb⟩) HT2.out hc1 ⟨⟨fun h => absurd rfl h⟩, rfl, by unfold maxLen; omega, fun z hz => by cases hz⟩ ⟨by omega, by omega⟩ ⟨Nat.zero_le _, fun i hi => by cases hi⟩ (fun t ht => (HF.out t ht).ev.1) (by omega) hnm)
 clear hT1 hc1 hba ho hok hb1 hnm;go_wp2_with fail
 refine HNW.out.mono ?_;rintro e w3 ⟨gt, rfl, hTA, hb3⟩;have hb4 := (Below.refl w3.heap.size w3).alloc (Nat.le_refl _) (.cells #[.int .i64 (room : Int), .pointer (some ⟨gt, 0, none⟩), .pointer none] 73);have hs4 : (w3.alloc (.cells #[.int .i64 (room : Int), .pointer (some ⟨gt, 0, none⟩), .pointer none] 73)).heap.size = w3.heap.size + 1 := by simp
 have HB4 := zI hb4;have HTA := zI hTA;have HS4 := zI hs4;have HB3 := zI (HB2.out.trans (hb3.mono HB2.out.size));clear hb3 hTA hb4 hs4;go_wp2_with fail
 go_ret2;have hsz2 := HB2.out.size;have hsz3 := HB3.out.size;have hs4 := HS4.out;have hT4 := HTA.out.below HB4.out;have hT5 := hT4;rw [show (⟨⟨0, ⟨nm.toArray⟩, ts, []⟩, List.replicate n []⟩ : Tv) = Tv.new ⟨nm.toArray⟩ ts 0 from by unfold Tv.new; rw [HN.out]] at hT5;refine ⟨w3.heap.size, rfl, ⟨⟨gt, _, Bx.new w3 73 _, hT5, fun hb => Nat.lt_irrefl _ hb.2, fun b hb => ⟨by have := hb.1; omega, by have := hb.2; omega⟩⟩, ⟨hsz3, by omega⟩, Ins.made, hr⟩, HB3.out.trans (HB4.out.mono hsz3)⟩
theorem Jwp {F : Nat -> Prop} {g room : Nat} {t : Tv} (w : World) (h : StAt w F g room t) (h1 : 1 <= t.tabs.length) (hf : t.Few) (h3 : t.tabs.length <= 1000) :
  Calls Tryz.prog 143 #[.pointer (some ⟨g, 0, none⟩)] w fun e w' => e = .returned (.int .i64 t.need) /\ Below w.heap.size w w' := by
 have HNO := zI (Jod w h);obtain ⟨gt, FT, hX, hT, _, _⟩ := h.ex;have HND := zI (Jrv w.drew (hT.below (Below.refl _ _).drew) h1 hf);have hbd := Jgy hf t.tabs.length (Nat.le_refl _);have HAD := zI (fun W => Jrw t.need W ⟨hbd.1, by have := hbd.2; unfold Tv.need; omega⟩);have HX := zI hX;have HXD := zI hX.drew;clear h hX hT hf hbd;go_enter Tryz.func143, Tryz.ntmps143;go_wp2_with fail
 refine HNO.out.mono ?_;rintro e w1 ⟨rfl, hw⟩;subst hw;go_upto_region 3 with fail
 go_region_held3 (fun w' => w'.cell? ⟨g, 1, none⟩ = some (.pointer (some ⟨gt, 0, none⟩)) /\ w'.cell? ⟨g, 2, none⟩ = some (.pointer none) /\ Below w.heap.size w w')
  (first
    | exact ⟨HXD.out.at_ 1 rfl, HXD.out.at_ 2 rfl, (Below.refl _ _).drew⟩
    | (have hS := (Below.refl w.heap.size w).drew.trans hb2
       exact ⟨(HX.out.below hS).at_ 1 rfl, (HX.out.below hS).at_ 2 rfl, hS⟩))
  (first
    | (go_at_call 48; refine HND.out.mono ?_; rintro e w2 ⟨rfl, hb2⟩)
    | (go_at_call 49; refine (Jkw _).mono ?_; rintro e w4 ⟨rfl, rfl⟩)
    | (go_at_call 47; refine (HAD.out _).mono ?_; rintro e w5 ⟨rfl, rfl⟩))
 have hS : Below w.heap.size w w2 := by go_split_ands; assumption
 have HS := zI hS;clear hS hb2;go_wp2_with fail
 go_ret;exact ⟨rfl, HS.out⟩
theorem Jld {F : Nat -> Prop} {g room : Nat} {t : Tv} (w : World) (h : StAt w F g room t) :
  Calls Tryz.prog 155 #[.pointer (some ⟨g, 0, none⟩)] w fun e w' => ∃ g', e = .returned (.pointer (some ⟨g', 0, none⟩)) /\ Jal w' (made w w') g' t /\ Below w.heap.size w w' := by
 obtain ⟨gt, FT, hX, hT, _, _⟩ := h.ex;have HC := zI (Jmj w hT);have s1 := hX.at_ 1 (v := .pointer (some ⟨gt, 0, none⟩)) rfl;clear h hX hT;go_enter Tryz.func155, Tryz.ntmps155;go_wp2_with fail
 refine HC.out.mono ?_;rintro e w1 ⟨g', rfl, hT, hb⟩;have HT := zI hT;have HB := zI hb;clear hT hb;go_wp2_with fail
 go_ret;exact ⟨g', rfl, HT.out, HB.out⟩
theorem Jjv {F : Nat -> Prop} {g room : Nat} {t : Tv} (w : World) (h : StAt w F g room t) :
  Calls Tryz.prog 156 #[.pointer (some ⟨g, 0, none⟩)] w fun e w' => e = .returned (.pointer none) /\ w = w' := by
 obtain ⟨gt, FT, hX, hT, _, _⟩ := h.ex;have s1 := hX.at_ 2 (v := .pointer none) rfl;clear h hX hT;go_enter Tryz.func156, Tryz.ntmps156;go_wp2_with fail
 refine (Joe _).mono ?_;rintro e w1 ⟨rfl, hw⟩;subst hw;go_wp2_with fail
 go_ret;exact ⟨rfl, rfl⟩
end Go.Proofs.YtalkkhafcfhglaaGreatDoor
