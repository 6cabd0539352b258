/-
  Several texts in one: ValidP, PolFits, PolFits2, PolCheck, PolBuild, PolPrint.
-/
import Derived.Lib.SmallJoins
import Derived.Lib.Join
import Derived.Test.YtalkkhafcfhglaaGreatDoorQ20
set_option maxRecDepth 100000
set_option maxHeartbeats 4000000
namespace Go.Proofs.YtalkkhafcfhglaaGreatDoor.Py
open Go.RowKit
theorem J3l (w : World) (s : ByteArray) (o : Nat) (ho : o = w.heap.size) : 0 < 1 -> ∃ b off, (some (⟨o, 0, none⟩ : Addr)) = some ⟨b, off, none⟩ /\ ∀ i (h : i < [s].length), (w.alloc (.cells #[.string s] 9)).cell? ⟨b, off + i, none⟩ = some (.string [s][i]) := by
 intro _;subst ho;refine ⟨_, _, rfl, fun i hi => ?_⟩;have : i = 0 := by simpa using hi
 subst this;exact cell_of_row _ _ 0 _ _ _ (heap_alloc_new w _)
theorem Jos (s : ByteArray) (w : World) (hs : s.size <= maxLen) (c : Nat) : Calls Tryz.prog 112 #[.slice (some ⟨w.heap.size, 0, none⟩) 1 c] (w.alloc (.cells #[.string s] 9)) fun e w' => e = .returned (.bool (Jak s.toList)) /\ w.alloc (.cells #[.string s] 9) = w' := by
 have h := Jb5 (some ⟨w.heap.size, 0, none⟩) 1 c [s] (w.alloc (.cells #[.string s] 9)) (by decide) rfl (fun x hx => by rw [List.mem_singleton.1 hx]; exact hs) (J3l w s _ rfl)
 simpa using h
open Go.ChangeAt Go.ChangeShapes Go.Deep Go.WideShapes
def Jdh (n m : Int) : Bool := decide (1 <= n) && decide (n <= m)
theorem Ja7 (n m : Int) (w : World) : Calls Tryz.prog 113 #[.int .i64 n, .int .i64 m] w fun e w' => e = .returned (.bool (Jdh n m)) /\ w = w' := by
 by_cases a : n ≥ 1 <;> by_cases b : n <= m
 all_goals
  go_enter Tryz.func113, Tryz.ntmps113;go_wp2;go_ret;exact ⟨Jag (by unfold Jdh; simp [a, b]), rfl⟩
def Jdq (a b : Int) : Bool := decide (1 <= a) && (b.tmod a == 0)
theorem Jjc (a b : Int) (w : World) : Calls Tryz.prog 184 #[.int .i64 a, .int .i64 b] w fun e w' => e = .returned (.bool (Jdq a b)) /\ w = w' := by
 by_cases h : a ≥ 1
 · have HF := zI (show Jdq a b = (b.tmod a == 0) from by unfold Jdq; rw [decide_eq_true h]; rfl)
   have h0 : (a == 0) = false := beq_eq_false_iff_ne.2 (by omega);have h1 : a ≠ 0 := by omega
   go_enter Tryz.func184, Tryz.ntmps184;go_wp2;go_ret;exact ⟨Jag (by rw [HF.out]), rfl⟩
 · have HF := zI (show Jdq a b = false from by unfold Jdq; rw [decide_eq_false (by omega)]; rfl)
   go_enter Tryz.func184, Tryz.ntmps184;go_wp2;go_ret;exact ⟨Jag HF.out.symm, rfl⟩
theorem Jot (x t : Ti) (B : Nat) (w : World) (h : w.cell? ⟨B, 0, none⟩ = some (.string t.nm)) (hB : B < w.heap.size) :
  Calls Tryz.prog 183 #[.agg #[.string x.nm, .int .i64 x.ev, .int .i64 x.kp, .int .i64 x.sh], .pointer (some ⟨B, 0, none⟩)] w fun e w' => e = .returned (.bool (x.nm.toList == t.nm.toList)) /\ Below w.heap.size w w' := by
 have h' := (World.cell?_alloc_past (o := .cells #[.string x.nm, .int .i64 x.ev, .int .i64 x.kp, .int .i64 x.sh] 119) B 0 hB).trans h;go_enter Tryz.func183, Tryz.ntmps183;go_wp2;go_ret;exact ⟨rfl, (Below.refl _ _).alloc (Nat.le_refl _) _⟩
theorem Jtz (A : Option Addr) (n c : Nat) (l : List Ti) (t : Ti) (B : Nat) (w : World) (hA : Tis w A n l) (h : w.cell? ⟨B, 0, none⟩ = some (.string t.nm)) (hB : B < w.heap.size) :
  Calls Tryz.prog 238 #[.slice A n c, .func (.func 183) #[] #[.pointer (some ⟨B, 0, none⟩)]] w fun e w' => (∃ i : Int, e = .returned (.int .i64 i) /\ (0 <= i ↔ dupB l t = true) /\ -1 <= i /\ i <= n) /\ Below w.heap.size w w' := by
 have hn := hA.n_le;unfold maxLen at hn;have HL := zI hA.len;go_enter Tryz.func238, Tryz.ntmps238;go_wp2;obtain ⟨w6, hw6⟩ : ∃ w6, w6 = w := ⟨_, rfl⟩;subst hw6;go_loopw [5, 8] (fun _ i wr => ∃ j : Nat, j <= n /\ i = .int .i64 j /\ Below w6.heap.size w6 wr /\ Hid (dupB (l.take j) t = false)) (fun _ i _ => n - (intOf i).toNat)
 case atStart => exact ⟨0, Nat.zero_le _, rfl, Below.refl _ _, zI rfl⟩
 case round =>
  obtain ⟨j, hj, rfl, hbel, HD⟩ := hrel;by_cases hlt : j < n
  · have K : j < l.length := by rw [HL.out]; exact hlt
    obtain ⟨g1, o1, rfl, hb, X⟩ := (hA.below hbel).get K;obtain ⟨r0, r1, r2, r3⟩ := X;have HT := zI (show l.take (j + 1) = l.take j ++ [l[j]'K] from List.take_succ_eq_append_getElem K);have HM := zI (show l[j]'K ∈ l from List.getElem_mem K);generalize l[j]'K = x at *;have hcell := (hbel.cell (p := ⟨B, 0, none⟩) hB).trans h;have hBr : B < wr.heap.size := Nat.lt_of_lt_of_le hB hbel.size;have HC := zI (Jot x t B wr hcell hBr);have g0 : (0 : Int) <= (j : Int) := (by omega);have g1 : (j : Int) < (n : Int) := (by omega);cases he : (x.nm.toList == t.nm.toList)
    · have HN := zI (show dupB (l.take (j + 1)) t = false from by rw [HT.out, J0o, HD.out, he]; rfl)
      rw [he] at HC;go_wp2_with (go_at_call 183; refine HC.out.mono ?_; rintro e w1 ⟨rfl, hb1⟩)
      go_roundw
      case rel => exact ⟨j + 1, by omega, by go_num, hbel.trans (hb1.mono hbel.size), HN⟩
      case measure => simp [intOf]; omega
    · have HN := zI (show dupB l t = true from List.any_eq_true.2 ⟨x, HM.out, he⟩)
      rw [he] at HC;go_wp2_with (go_at_call 183; refine HC.out.mono ?_; rintro e w1 ⟨rfl, hb1⟩)
      go_ret;exact ⟨⟨j, rfl, by rw [HN.out]; simp, by omega, by omega⟩, hbel.trans (hb1.mono hbel.size)⟩
  · have hd : decide ((j : Int) < (n : Int)) = false := decide_eq_false (by omega)
    have HN := zI (show dupB l t = false from by have := HD.out; rwa [List.take_of_length_le (by rw [HL.out]; omega)] at this);go_wp2;go_ret;exact ⟨⟨-1, rfl, by rw [HN.out]; simp, by omega, by omega⟩, hbel⟩
theorem Jmv (A : Option Addr) (n c : Nat) (l : List Ti) (t : Ti) (B : Nat) (w : World) (hA : Tis w A n l) (h : w.cell? ⟨B, 0, none⟩ = some (.string t.nm)) (hB : B < w.heap.size) :
  Calls Tryz.prog 182 #[.slice A n c, .func (.func 183) #[] #[.pointer (some ⟨B, 0, none⟩)]] w fun e w' => e = .returned (.bool (dupB l t)) /\ Below w.heap.size w w' := by
 have HC := zI (Jtz A n c l t B w hA h hB);go_enter Tryz.func182, Tryz.ntmps182;go_wp2_with (go_at_call 238; refine HC.out.mono ?_; rintro e w1 ⟨⟨i, rfl, hi, _, _⟩, hb1⟩)
 go_ret;refine ⟨Jag ?_, hb1⟩;rw [Bool.eq_iff_iff, <- hi]
theorem within_iff {n m : Int} : Jdh n m = true ↔ 1 <= n /\ n <= m := by unfold Jdh; rw [Bool.and_eq_true, decide_eq_true_eq, decide_eq_true_eq]
theorem Jqh {t : Ti} (h : Jak t.nm.toList = false) : Jdg t = true := by unfold Jdg; rw [h]; rfl
theorem Jla {t : Ti} (h : t.kp < 1 \/ 1000000 < t.kp \/ t.sh < 1 \/ 8 < t.sh \/ t.ev < 1 \/ 1000000 < t.ev) : Jdg t = true := by
 unfold Jdg;cases Jak t.nm.toList
 · rfl
 · rw [Bool.eq_iff_iff]; simp only [Bool.or_eq_true, decide_eq_true_eq, iff_true]; right; omega
theorem Jwk {t : Ti} (h : Jak t.nm.toList = true) (h1 : 1 <= t.kp /\ t.kp <= 1000000) (h2 : 1 <= t.sh /\ t.sh <= 8) (h3 : 1 <= t.ev /\ t.ev <= 1000000) : Jdg t = false := by
 unfold Jdg;rw [h, decide_eq_false (by omega), decide_eq_false (by omega), decide_eq_false (by omega), decide_eq_false (by omega), decide_eq_false (by omega), decide_eq_false (by omega)]; rfl
theorem Jr6 (ts : List Ti) (j : Nat) (K : j < ts.length) : Jcj ts j = ((Jdg (ts[j]'K) || dupB (ts.take j) (ts[j]'K)) || (if j = 0 then !((ts[j]'K).ev == 1) else match ts[j - 1]? with | none => false | some o => Jor o (ts[j]'K))) := by
 unfold Jcj; rw [List.getElem?_eq_getElem K]; rfl
theorem J0r (ts : List Ti) (j : Nat) (K : j < ts.length) (h : Jcj ts j = false) : 1 <= (ts[j]'K).ev /\ (ts[j]'K).ev <= 1000000 := by
 rw [Jr6 ts j K] at h;simp only [Bool.or_eq_false_iff] at h;have h1 := h.1.1;unfold Jdg at h1;simp only [Bool.or_eq_false_iff, decide_eq_false_iff_not] at h1;omega
theorem J0s {t o : Ti} (hone : 1 <= t.ev /\ t.ev <= 1000000 -> Jdg t = false) (hnum : t.ev < 1 \/ 1000000 < t.ev -> Jdg t = true) (ho : 1 <= o.ev) :
  (Jdg t || Jor o t) = !(decide (o.ev < t.ev) && (decide (t.ev <= 1000000) && (Jdq o.ev t.ev && decide (o.kp <= t.kp)))) := by
 by_cases h1 : t.ev < 1 \/ 1000000 < t.ev
 · rw [hnum h1]
   rcases h1 with h1 | h1
   · rw [decide_eq_false (show ¬ o.ev < t.ev by omega)]; rfl
   · rw [decide_eq_false (show ¬ t.ev <= 1000000 by omega)]; simp
 · rw [hone (by omega), decide_eq_true (show t.ev <= 1000000 by omega)]
   unfold Jor Jdq;rw [decide_eq_true ho];by_cases h2 : t.ev <= o.ev
   · rw [decide_eq_true h2, decide_eq_false (show ¬ o.ev < t.ev by omega)]; rfl
   · rw [decide_eq_false h2, decide_eq_true (show o.ev < t.ev by omega)]
     by_cases h3 : t.kp < o.kp
     · rw [decide_eq_true h3, decide_eq_false (show ¬ o.kp <= t.kp by omega)]; simp
     · rw [decide_eq_false h3, decide_eq_true (show o.kp <= t.kp by omega)]; simp
theorem J0t (ts : List Ti) (j : Nat) (K : j < ts.length) (A : Option Addr) (c : Nat) (w : World) (hprev : ∀ i, i < j -> Jcj ts i = false) (hA : Tis w A j (ts.take j)) (hok : (ts[j]'K).Ok) :
  Calls Tryz.prog 114 #[.agg #[.string (ts[j]'K).nm, .int .i64 (ts[j]'K).ev, .int .i64 (ts[j]'K).kp, .int .i64 (ts[j]'K).sh], .slice A j c] w fun e w' => e = .returned (.bool (!Jcj ts j)) /\ Below w.heap.size w w' := by
 have hn := hA.n_le;unfold maxLen at hn;have HB := zI (Jr6 ts j K);have HP := zI hprev;have HA := zI hA;obtain ⟨t, ht⟩ : ∃ t, t = ts[j]'K := ⟨_, rfl⟩;rw [<- ht] at hok HB ⊢;have b0 := Bx.new w 119 #[.string t.nm, .int .i64 t.ev, .int .i64 t.kp, .int .i64 t.sh];have hb0 : Below w.heap.size w (w.alloc (.cells #[.string t.nm, .int .i64 t.ev, .int .i64 t.kp, .int .i64 t.sh] 119)) := (Below.refl _ w).alloc (Nat.le_refl _) _;have b1 := b0.alloc (.cells #[.string t.nm] 9);have hb1 := hb0.alloc hb0.size (.cells #[.string t.nm] 9);have HV := zI (Jos t.nm (w.alloc (.cells #[.string t.nm, .int .i64 t.ev, .int .i64 t.kp, .int .i64 t.sh] 119)) hok.nm 1);rw [show (w.alloc (.cells #[.string t.nm, .int .i64 t.ev, .int .i64 t.kp, .int .i64 t.sh] 119)).heap.size = w.heap.size + 1 from by simp] at HV;have x0 := b0.at_ 0 rfl;have x2 := b1.at_ 2 rfl;have x3 := b1.at_ 3 rfl;have HX := zI b1;clear b0 hA hprev ht;by_cases hbad : Jak t.nm.toList = true /\ Jdh t.kp 1000000 = true /\ Jdh t.sh 8 = true
 rotate_left
 · have HF := zI (show Jcj ts j = true from by
    rw [HB.out]
    have : Jdg t = true := by
     by_cases h1 : Jak t.nm.toList = true
     · have : ¬ (1 <= t.kp /\ t.kp <= 1000000) \/ ¬ (1 <= t.sh /\ t.sh <= 8) := by
        by_cases h2 : Jdh t.kp 1000000 = true
        · exact .inr (fun h3 => hbad ⟨h1, h2, within_iff.2 h3⟩)
        · exact .inl (fun h3 => h2 (within_iff.2 h3))
       exact Jla (by omega)
     · exact Jqh (by simpa using h1)
    rw [this]; rfl)
   cases hv : Jak t.nm.toList
   · rw [hv] at HV
     clear hbad ;go_enter Tryz.func114, Tryz.ntmps114
     go_wp2_with (first
      | (go_at_call 112; refine HV.out.mono ?_; rintro e w1 ⟨rfl, rfl⟩))
     go_ret;exact ⟨by rw [HF.out]; rfl, hb1⟩
   rw [hv] at HV;cases hk : Jdh t.kp 1000000
   · clear hbad
     go_enter Tryz.func114, Tryz.ntmps114
     go_wp2_with (first
      | (go_at_call 112; refine HV.out.mono ?_; rintro e w1 ⟨rfl, rfl⟩)
      | (go_at_call 113; refine (Ja7 _ _ _).mono ?_; rintro e w1 ⟨rfl, rfl⟩))
     go_ret;exact ⟨by rw [HF.out]; rfl, hb1⟩
   have hs : Jdh t.sh 8 = false := by
    cases hh : Jdh t.sh 8
    · rfl
    · exact absurd ⟨hv, hk, hh⟩ hbad
   clear hbad;go_enter Tryz.func114, Tryz.ntmps114
   go_wp2_with (first
    | (go_at_call 112; refine HV.out.mono ?_; rintro e w1 ⟨rfl, rfl⟩)
    | (go_at_call 113; refine (Ja7 _ _ _).mono ?_; rintro e w1 ⟨rfl, rfl⟩))
   go_ret;exact ⟨by rw [HF.out]; rfl, hb1⟩
 obtain ⟨hv, hk, hs⟩ := hbad;rw [hv] at HV;have hk' := within_iff.1 hk;have hs' := within_iff.1 hs;have HONE := zI (fun h => Jwk (t := t) hv hk' hs' h);have HNUM := zI (fun h => Jla (t := t) (.inr (.inr (.inr (.inr h)))));clear hv;have x1 := HX.out.at_ 1 rfl;by_cases hj : j = 0
 · subst hj
   by_cases he : t.ev = 1
   · have HF := zI (show Jcj ts 0 = false from by rw [HB.out, HONE.out (by omega), if_pos rfl, he]; rfl)
     have he' : (t.ev == 1) = true := beq_iff_eq.2 he;clear he;go_enter Tryz.func114, Tryz.ntmps114
     go_wp2_with (first
      | (go_at_call 112; refine HV.out.mono ?_; rintro e w1 ⟨rfl, rfl⟩)
      | (go_at_call 113; refine (Ja7 _ _ _).mono ?_; rintro e w1 ⟨rfl, rfl⟩))
     go_ret;exact ⟨by rw [HF.out]; rfl, hb1⟩
   · have he' : (t.ev == 1) = false := beq_eq_false_iff_ne.2 he
     have HF := zI (show Jcj ts 0 = true from by rw [HB.out, if_pos rfl, he']; simp);clear he;go_enter Tryz.func114, Tryz.ntmps114
     go_wp2_with (first
      | (go_at_call 112; refine HV.out.mono ?_; rintro e w1 ⟨rfl, rfl⟩)
      | (go_at_call 113; refine (Ja7 _ _ _).mono ?_; rintro e w1 ⟨rfl, rfl⟩))
     go_ret;exact ⟨by rw [HF.out]; rfl, hb1⟩
 have K3 : j - 1 < ts.length := by omega
 have ho := J0r ts (j - 1) K3 (HP.out (j - 1) (by omega));have hot : ts[j - 1]? = some (ts[j - 1]'K3) := List.getElem?_eq_getElem K3;have K4 : j - 1 < (ts.take j).length := by rw [List.length_take]; omega
 obtain ⟨b, off, rfl, hbl, X⟩ := (HA.out.below hb1).get K4;have hget : (ts.take j)[j - 1]'K4 = ts[j - 1]'K3 := by rw [List.getElem_take]
 rw [hget] at X;have HB2 := zI (show Jcj ts j = ((Jdg t || dupB (ts.take j) t) || Jor (ts[j - 1]'K3) t) from by rw [HB.out, if_neg hj, hot]);generalize ts[j - 1]'K3 = o at *;obtain ⟨r0, r1, r2, r3⟩ := X;have hci : ((j : Int) == 0) = false := beq_eq_false_iff_ne.2 (by omega);have hw1 : IntKind.i64.wrap ((j : Int) - 1) = (j : Int) - 1 := IntWalk.i64_in _ (by omega);have ht1 : ((j : Int) - 1).toNat = j - 1 := by omega
 have g0 : (0 : Int) <= (j : Int) - 1 := by omega
 have g1 : (j : Int) - 1 < (j : Int) := by omega
 have hb2 := hb1.alloc hb1.size (.cells #[.string o.nm, .int .i64 o.ev, .int .i64 o.kp, .int .i64 o.sh] 119);have HC := zI (Jmv (some ⟨b, off, none⟩) j c (ts.take j) t w.heap.size _ (HA.out.below hb2) ((HX.out.alloc (.cells #[.string o.nm, .int .i64 o.ev, .int .i64 o.kp, .int .i64 o.sh] 119)).at_ 0 rfl) (by simp; omega));have HT := zI (HX.out.alloc (.cells #[.string o.nm, .int .i64 o.ev, .int .i64 o.kp, .int .i64 o.sh] 119));have HO := zI (Bx.new ((w.alloc (.cells #[.string t.nm, .int .i64 t.ev, .int .i64 t.kp, .int .i64 t.sh] 119)).alloc (.cells #[.string t.nm] 9)) 119 #[.string o.nm, .int .i64 o.ev, .int .i64 o.kp, .int .i64 o.sh]);have HD := zI (fun W => Jjc o.ev t.ev W);clear hb1 hot hget hbl HP HB K3 K4;go_enter Tryz.func114, Tryz.ntmps114;cases hd : dupB (ts.take j) t
 rotate_left
 · have HF := zI (show Jcj ts j = true from by rw [HB2.out, hd]; simp)
   rw [hd] at HC;clear HD HONE HNUM HB2
   go_wp2_with (first
    | (go_at_call 112; refine HV.out.mono ?_; rintro e w1 ⟨rfl, rfl⟩)
    | (go_at_call 113; refine (Ja7 _ _ _).mono ?_; rintro e w1 ⟨rfl, rfl⟩)
    | (go_at_call 182; refine HC.out.mono ?_; rintro e w1 ⟨rfl, hb3⟩))
   go_ret;exact ⟨by rw [HF.out]; rfl, hb2.trans (hb3.mono hb2.size)⟩
 rw [hd] at HC HB2;rw [Bool.or_false] at HB2;have HB3 := zI (HB2.out.trans (J0s HONE.out HNUM.out ho.1));clear HB2 HONE HNUM hd ho;by_cases c1 : o.ev < t.ev
 rotate_left
 · have HF := zI (show Jcj ts j = true from by rw [HB3.out, decide_eq_false c1]; rfl)
   clear HB3
   go_wp2_with (first
    | (go_at_call 112; refine HV.out.mono ?_; rintro e w1 ⟨rfl, rfl⟩)
    | (go_at_call 113; refine (Ja7 _ _ _).mono ?_; rintro e w1 ⟨rfl, rfl⟩)
    | (go_at_call 182; refine HC.out.mono ?_; rintro e w1 ⟨rfl, hb3⟩
       have T := HT.out.below hb3;have O := HO.out.below hb3;have u1 := T.at_ 1 rfl;have u2 := T.at_ 2 rfl;have v1 := O.at_ 1 rfl;have v2 := O.at_ 2 rfl;simp only [World.size_alloc] at v1 v2)
    | (go_at_call 184; refine (HD.out _).mono ?_; rintro e w1 ⟨rfl, rfl⟩))
   go_ret;exact ⟨by rw [HF.out]; rfl, hb2.trans (hb3.mono hb2.size)⟩
 by_cases c2 : t.ev <= 1000000
 rotate_left
 · have HF := zI (show Jcj ts j = true from by rw [HB3.out, decide_eq_false c2]; simp)
   clear HB3
   go_wp2_with (first
    | (go_at_call 112; refine HV.out.mono ?_; rintro e w1 ⟨rfl, rfl⟩)
    | (go_at_call 113; refine (Ja7 _ _ _).mono ?_; rintro e w1 ⟨rfl, rfl⟩)
    | (go_at_call 182; refine HC.out.mono ?_; rintro e w1 ⟨rfl, hb3⟩
       have T := HT.out.below hb3;have O := HO.out.below hb3;have u1 := T.at_ 1 rfl;have u2 := T.at_ 2 rfl;have v1 := O.at_ 1 rfl;have v2 := O.at_ 2 rfl;simp only [World.size_alloc] at v1 v2)
    | (go_at_call 184; refine (HD.out _).mono ?_; rintro e w1 ⟨rfl, rfl⟩))
   go_ret;exact ⟨by rw [HF.out]; rfl, hb2.trans (hb3.mono hb2.size)⟩
 cases c3 : Jdq o.ev t.ev
 · have HF := zI (show Jcj ts j = true from by rw [HB3.out, c3]; simp)
   rw [c3] at HD;clear HB3 c3
   go_wp2_with (first
    | (go_at_call 112; refine HV.out.mono ?_; rintro e w1 ⟨rfl, rfl⟩)
    | (go_at_call 113; refine (Ja7 _ _ _).mono ?_; rintro e w1 ⟨rfl, rfl⟩)
    | (go_at_call 182; refine HC.out.mono ?_; rintro e w1 ⟨rfl, hb3⟩
       have T := HT.out.below hb3;have O := HO.out.below hb3;have u1 := T.at_ 1 rfl;have u2 := T.at_ 2 rfl;have v1 := O.at_ 1 rfl;have v2 := O.at_ 2 rfl;simp only [World.size_alloc] at v1 v2)
    | (go_at_call 184; refine (HD.out _).mono ?_; rintro e w1 ⟨rfl, rfl⟩))
   go_ret;exact ⟨by rw [HF.out]; rfl, hb2.trans (hb3.mono hb2.size)⟩
 by_cases c4 : o.kp <= t.kp
 · have HF := zI (show Jcj ts j = false from by rw [HB3.out, c3, decide_eq_true c1, decide_eq_true c2, decide_eq_true c4]; rfl)
   rw [c3] at HD;clear HB3 c3
   go_wp2_with (first
    | (go_at_call 112; refine HV.out.mono ?_; rintro e w1 ⟨rfl, rfl⟩)
    | (go_at_call 113; refine (Ja7 _ _ _).mono ?_; rintro e w1 ⟨rfl, rfl⟩)
    | (go_at_call 182; refine HC.out.mono ?_; rintro e w1 ⟨rfl, hb3⟩
       have T := HT.out.below hb3;have O := HO.out.below hb3;have u1 := T.at_ 1 rfl;have u2 := T.at_ 2 rfl;have v1 := O.at_ 1 rfl;have v2 := O.at_ 2 rfl;simp only [World.size_alloc] at v1 v2)
    | (go_at_call 184; refine (HD.out _).mono ?_; rintro e w1 ⟨rfl, rfl⟩))
   go_ret;exact ⟨by rw [HF.out]; rfl, hb2.trans (hb3.mono hb2.size)⟩
 · have HF := zI (show Jcj ts j = true from by rw [HB3.out, decide_eq_false c4]; simp)
   rw [c3] at HD;clear HB3 c3
   go_wp2_with (first
    | (go_at_call 112; refine HV.out.mono ?_; rintro e w1 ⟨rfl, rfl⟩)
    | (go_at_call 113; refine (Ja7 _ _ _).mono ?_; rintro e w1 ⟨rfl, rfl⟩)
    | (go_at_call 182; refine HC.out.mono ?_; rintro e w1 ⟨rfl, hb3⟩
       have T := HT.out.below hb3;have O := HO.out.below hb3;have u1 := T.at_ 1 rfl;have u2 := T.at_ 2 rfl;have v1 := O.at_ 1 rfl;have v2 := O.at_ 2 rfl;simp only [World.size_alloc] at v1 v2)
    | (go_at_call 184; refine (HD.out _).mono ?_; rintro e w1 ⟨rfl, rfl⟩))
   go_ret;exact ⟨by rw [HF.out]; first | rfl | exact Jag (decide_eq_false (by omega)), hb2.trans (hb3.mono hb2.size)⟩
structure CkS (w0 w' : World) (b b1 : Nat) (nm : ByteArray) (A : Option Addr) (n c : Nat) (x : Ti) : Prop where
 bx : Bx w' b 63 #[.string nm, .slice A n c]
 xb : Bx w' b1 119 #[.string x.nm, .int .i64 x.ev, .int .i64 x.kp, .int .i64 x.sh]
 bel : Below w0.heap.size w0 w'
section
variable {w0 w w' : World} {b b1 : Nat} {nm : ByteArray} {A : Option Addr} {n c : Nat} {x : Ti}
theorem CkS.below (h : CkS w0 w b b1 nm A n c x) (hb : Below w.heap.size w w') : CkS w0 w' b b1 nm A n c x := ⟨h.bx.below hb, h.xb.below hb, h.bel.trans (hb.mono h.bel.size)⟩
theorem CkS.drew (h : CkS w0 w b b1 nm A n c x) : CkS w0 w.drew b b1 nm A n c x := h.below ((Below.refl _ _).drew)
theorem CkS.full (h : CkS w0 w b b1 nm A n c x) : CkS w0 w b b1 nm A n c x /\ w.cell? ⟨b, 1, none⟩ = some (.slice A n c) /\ w.cell? ⟨b1, 0, none⟩ = some (.string x.nm) /\ w.cell? ⟨b1, 1, none⟩ = some (.int .i64 x.ev) /\ w.cell? ⟨b1, 2, none⟩ = some (.int .i64 x.kp) /\ w.cell? ⟨b1, 3, none⟩ = some (.int .i64 x.sh) :=
 ⟨h, h.bx.at_ 1 rfl, h.xb.at_ 0 rfl, h.xb.at_ 1 rfl, h.xb.at_ 2 rfl, h.xb.at_ 3 rfl⟩
end
theorem Jkg {w : World} {A : Option Addr} {n j : Nat} {l : List Ti} (h : Tis w A n l) (hj : j <= n) : Tis w A j (l.take j) := by
 have hl := h.len;have hn := h.n_le;refine ⟨⟨fun hne => ?_⟩, by rw [List.length_take]; omega, by omega, fun t ht => h.ok t (List.mem_of_mem_take ht)⟩;have e : l.flatMap Ti.cells = (l.take j).flatMap Ti.cells ++ (l.drop j).flatMap Ti.cells := by rw [<- List.flatMap_append, List.take_append_drop]
 obtain ⟨b, off, e2, hb, hc⟩ := h.sl.at_ (fun e3 => hne (by rw [e] at e3; exact (List.append_eq_nil_iff.1 e3).1));refine ⟨b, off, e2, hb, fun i u hu => hc i u ?_⟩;have hi := (List.getElem?_eq_some_iff.1 hu).1;rw [e, List.getElem?_append_left hi]; exact hu
theorem check_any (nm : ByteArray) (A : Option Addr) (n c : Nat) (ts : List Ti) (w : World) (hnm : nm.size <= maxLen) (h : Tis w A n ts) (hc : n <= c) :
  Calls Tryz.prog 55 #[polV nm A n c] w fun e w' => e = .returned (.tuple #[.int .i64 (checkR nm.toList ts).1, .int .i64 (checkR nm.toList ts).2]) /\ Below w.heap.size w w' := by
 have hn := h.n_le;unfold maxLen at hn;have hln := h.len;have b0 := Bx.new w 63 #[.string nm, .slice A n c];have hb0 : Below w.heap.size w (w.alloc (.cells #[.string nm, .slice A n c] 63)) := (Below.refl _ w).alloc (Nat.le_refl _) _;have b1 := b0.alloc (.cells #[.string nm] 9);have hb1 := hb0.alloc hb0.size (.cells #[.string nm] 9);have HV := zI (Jos nm (w.alloc (.cells #[.string nm, .slice A n c] 63)) hnm 1);rw [show (w.alloc (.cells #[.string nm, .slice A n c] 63)).heap.size = w.heap.size + 1 from by simp] at HV;have x1 := b1.at_ 1 rfl;have HT := zI h;have HB1 := zI b1;clear h b0 hb0;cases hv : Jak nm.toList
 · have HF := zI (show checkR nm.toList ts = (23, 0) from by unfold checkR; rw [hv]; rfl)
   rw [hv] at HV;go_enter Tryz.func55, Tryz.ntmps55
   go_wp2_with (first
    | (go_at_call 112; refine HV.out.mono ?_; rintro e w1 ⟨rfl, rfl⟩))
   go_ret2;exact ⟨by rw [HF.out]; rfl, hb1⟩
 rw [hv] at HV;cases hin : Jdh (n : Int) 5
 · have HF := zI (show checkR nm.toList ts = (23, 0) from by
    have hne : ¬ (1 <= (n : Int) /\ (n : Int) <= 5) := fun e => by rw [within_iff.2 e] at hin; cases hin
    unfold checkR; rw [hv, hln];have : n < 1 \/ 5 < n := (by omega);rw [if_pos (by simpa using this)])
   go_enter Tryz.func55, Tryz.ntmps55
   go_wp2_with (first
    | (go_at_call 112; refine HV.out.mono ?_; rintro e w1 ⟨rfl, rfl⟩)
    | (go_at_call 113; refine (Ja7 _ _ _).mono ?_; rintro e w1 ⟨rfl, rfl⟩))
   go_ret2;exact ⟨by rw [HF.out]; rfl, hb1⟩
 have hin' := within_iff.1 hin
 have HF := zI (show checkR nm.toList ts = match (List.range n).find? (Jcj ts) with | some i => (23, (i : Int) + 1) | none => (0, 0) from by
  unfold checkR; rw [hv, hln, decide_eq_false (show ¬ n < 1 by omega), decide_eq_false (show ¬ 5 < n by omega)]; rfl)
 clear hv;go_enter Tryz.func55, Tryz.ntmps55
 go_wp2_with (first
  | (go_at_call 112; refine HV.out.mono ?_; rintro e w1 ⟨rfl, rfl⟩)
  | (go_at_call 113; refine (Ja7 _ _ _).mono ?_; rintro e w1 ⟨rfl, rfl⟩))
 go_loopw [4, 5, 21] (fun _ _ i wr => ∃ j : Nat, j <= n /\ i = .int .i64 j /\ Hid (∀ i, i < j -> Jcj ts i = false) /\ Bx wr w.heap.size 63 #[.string nm, .slice A n c] /\ Below w.heap.size w wr) (fun _ _ i _ => n - (intOf i).toNat)
 case atStart => exact ⟨0, Nat.zero_le _, rfl, zI (fun i hi => absurd hi (by omega)), HB1.out, hb1⟩
 case round =>
  clear HB1 hb1 x1 HV hin;obtain ⟨j, hj, rfl, HA, bx, hbr⟩ := hrel;by_cases hlt : j < n
  · have K : j < ts.length := by rw [hln]; exact hlt
    have hok := HT.out.ok _ (List.getElem_mem K);have hbx := (Below.refl wr.heap.size wr).alloc (Nat.le_refl _) (.cells #[.string (ts[j]'K).nm, .int .i64 (ts[j]'K).ev, .int .i64 (ts[j]'K).kp, .int .i64 (ts[j]'K).sh] 119);have HC := zI (fun W (hW : Below w.heap.size w W) => J0t ts j K A c W HA.out (Jkg (HT.out.below hW) hj) hok);obtain ⟨b, off, rfl, hbl, X⟩ := (HT.out.below hbr).get K;obtain ⟨r0, r1, r2, r3⟩ := X;have q1 := bx.at_ 1 rfl;have XB := Bx.new wr 119 #[.string (ts[j]'K).nm, .int .i64 (ts[j]'K).ev, .int .i64 (ts[j]'K).kp, .int .i64 (ts[j]'K).sh];have S0 : CkS w _ w.heap.size wr.heap.size nm _ n c (ts[j]'K) := ⟨bx.below hbx, XB, hbr.trans (hbx.mono hbr.size)⟩;generalize (ts[j]'K) = x at *;have g0 : (0 : Int) <= (j : Int) := (by omega);have g1 : (j : Int) < (n : Int) := (by omega);have g2 : (j : Int) <= (c : Int) := (by omega);have hjc : j <= c := (by omega);have S0D := S0.drew;clear XB bx hbx hbr;go_upto_region 6 with fail
    generalize wr.alloc (.cells #[.string x.nm, .int .i64 x.ev, .int .i64 x.kp, .int .i64 x.sh] 119) = w2 at *;generalize wr.heap.size = b1 at *;have F0 := S0D.full
    go_region_held3 (fun w' => CkS w w' w.heap.size b1 nm (some ⟨b, off, none⟩) n c x /\ w'.cell? ⟨w.heap.size, 1, none⟩ = some (.slice (some ⟨b, off, none⟩) n c) /\ w'.cell? ⟨b1, 0, none⟩ = some (.string x.nm) /\ w'.cell? ⟨b1, 1, none⟩ = some (.int .i64 x.ev) /\ w'.cell? ⟨b1, 2, none⟩ = some (.int .i64 x.kp) /\ w'.cell? ⟨b1, 3, none⟩ = some (.int .i64 x.sh))
     (first
       | assumption
       | exact S0D.full
       | (go_split_ands; exact CkS.full (by assumption))
       | (go_split_ands; exact CkS.full (CkS.below (by assumption) hbo)))
     (first
       | (go_at_call 114; go_split_ands; refine (HC.out _ (CkS.bel (by assumption))).mono ?_; rintro e wo ⟨rfl, hbo⟩))
    go_split_ands;have S1 : CkS w wo w.heap.size b1 nm (some ⟨b, off, none⟩) n c x := (by assumption);have hbf := S1.bel;have bxf := S1.bx
    have HNXT := zI (show Jcj ts j = false -> ∀ i, i < j + 1 -> Jcj ts i = false from fun e i hi => by
     by_cases e2 : i = j
     · rw [e2]; exact e
     · exact HA.out i (by omega))
    have HRET := zI (show Jcj ts j = true -> checkR nm.toList ts = (23, (j : Int) + 1) from fun e => by rw [HF.out, Jtw hlt e HA.out]);have hadd : IntKind.i64.wrap ((j : Int) + 1) = (j : Int) + 1 := IntWalk.i64_in _ (by omega);clear S0 S0D S1 HC;cases hbad : Jcj ts j
    · have HN := zI (HNXT.out hbad)
      clear HNXT HRET hbad;go_wp2;go_roundw
      case rel => exact ⟨j + 1, by omega, by go_num, HN, bxf, hbf⟩
      case measure => simp [intOf]; omega
    · have HR := zI (HRET.out hbad)
      clear HNXT HRET hbad;go_wp2;go_ret2;exact ⟨by rw [HR.out]; rfl, hbf⟩
  · have hje : j = n := by omega
    subst hje;have HR := zI (show checkR nm.toList ts = (0, 0) from by rw [HF.out, J3j HA.out]);have q1 := bx.at_ 1 rfl;go_wp2;go_ret2;exact ⟨by rw [HR.out]; rfl, hbr⟩
end Go.Proofs.YtalkkhafcfhglaaGreatDoor.Py
namespace Go.Proofs.YtalkkhafcfhglaaGreatDoor.Py
open Go.RowKit
def Bld (w : World) (B b : Nat) (l : List UInt8) : Prop := Lib.IsBuilder 226 5 B b (Lib.byteCells l) w
theorem Bld.fresh (w : World) : Bld (w.alloc (.cells #[.pointer none, .slice none 0 0] 226)) w.heap.size w.heap.size [] := Lib.fresh_isBuilder _ _ w
theorem Jkh (s : ByteArray) : Lib.strCells s = Lib.byteCells s.toList := by
 rw [ByteArray.toList_eq]; rfl
theorem Jmw (l : List UInt8) : (Lib.byteCells l).length = l.length := by simp [Lib.byteCells]
theorem Jlb (B b : Nat) (l : List UInt8) (s : ByteArray) (w : World) (h : Bld w B b l) (hl : l.length + s.size <= 1000000) (hB : B <= w.heap.size) :
  Calls Tryz.prog 121 #[.pointer (some ⟨b, 0, none⟩), .string s] w fun e w' => e = .returned (.tuple #[.int .i64 s.size, .nilIface]) /\ Bld w' B b (l ++ s.toList) /\ Below B w w' := by
 have X := Any.Builder_WriteString (P := Tryz.prog) (ρ := Tryz.lays156_ren) { Tryz.lays156 with } Tryz.Builder_Extra_156 B b (Lib.byteCells l) s w h (by rw [Jmw]; omega) hB;refine X.mono fun e w' ⟨he, h1, h2⟩ => ⟨he, .inr ?_, h2⟩;rw [Jkh, <- Lib.byteCells_append] at h1;exact h1
theorem J3m (B b : Nat) (l : List UInt8) (w : World) (h : Bld w B b l) (hB : B <= w.heap.size) :
  Calls Tryz.prog 123 #[.pointer (some ⟨b, 0, none⟩)] w fun e w' => e = .returned (.string ⟨l.toArray⟩) /\ Below B w w' :=
 Tryz.Builder_String_any B b l w h hB
theorem Bld.below {w w' : World} {B b : Nat} {l : List UInt8} (h : Bld w B b l) (hb : Below w.heap.size w w') : Bld w' B b l := by
 have key : ∀ p, Lib.BuilderAt 226 5 B b p (Lib.byteCells l) w -> Lib.BuilderAt 226 5 B b p (Lib.byteCells l) w' := fun p hp => by
  obtain ⟨h1, v, h2, h3, h4⟩ := hp;refine ⟨h1, v, (hb.block b (lt_of_block h2)).trans h2, h3.kept ⟨hb.os, hb.tape, hb.output, hb.size, fun i hi _ => hb.block i hi⟩ (Classical.em (v.ownBlock = none)), h4⟩
 exact h.imp (key _) (key _)
open Go.ChangeAt Go.ChangeShapes Go.Deep Go.WideShapes
def Jou (nm : List UInt8) (ts : List Ti) : List UInt8 := if (checkR nm ts).1 = 0 then printL nm ts else []
theorem Jgl {nm : List UInt8} {ts : List Ti} (h : (checkR nm ts).1 = 0) : checkR nm ts = (0, 0) := by
 unfold checkR at h ⊢;split
 · next hb => rw [if_pos hb] at h; simp at h
 · next hb =>
   rw [if_neg hb] at h;cases hf : (List.range ts.length).find? (Jcj ts) with
   | none => rfl
   | some i => rw [hf] at h; simp at h
theorem Jov (t : Ti) : Lib.join [Jgj, t.nm.toList, Jcc, Lib.itoa t.ev, Jev, Lib.itoa t.kp, Jbn, Lib.itoa t.sh] [32] ++ [10] = Jff t := by
 simp [Lib.join, List.intercalate, Jff]
theorem Jt0 (nm : List UInt8) (ts : List Ti) (t : Ti) : printL nm (ts ++ [t]) = printL nm ts ++ Jff t := by simp [printL]
theorem _root_.Go.Proofs.YtalkkhafcfhglaaGreatDoor.Bx.belowB {w w' : World} {g B : Nat} {T : TypeId} {cs : Array Value} (h : Bx w g T cs) (hb : Below B w w') (hg : g < B) : Bx w' g T cs := ⟨(hb.block g hg).trans h.blk⟩
structure PrS (w0 w : World) (bp bt bb : Nat) (pv tv : Array Value) (l : List UInt8) : Prop where
 bp : Bx w bp 63 pv
 bt : Bx w bt 119 tv
 bl : Bld w bb bb l
 bel : Below w0.heap.size w0 w
section
variable {w0 w w' : World} {bp bt bb : Nat} {nm : ByteArray} {A : Option Addr} {n c : Nat} {x : Ti} {l : List UInt8} {pv : Array Value}
theorem PrS.below {tv : Array Value} (h : PrS w0 w bp bt bb pv tv l) (hb : Below w.heap.size w w') : PrS w0 w' bp bt bb pv tv l := ⟨h.bp.below hb, h.bt.below hb, h.bl.below hb, h.bel.trans (hb.mono h.bel.size)⟩
theorem PrS.full (h : PrS w0 w bp bt bb pv #[.string x.nm, .int .i64 x.ev, .int .i64 x.kp, .int .i64 x.sh] l) : PrS w0 w bp bt bb pv #[.string x.nm, .int .i64 x.ev, .int .i64 x.kp, .int .i64 x.sh] l /\ w.cell? ⟨bt, 0, none⟩ = some (.string x.nm) /\ w.cell? ⟨bt, 1, none⟩ = some (.int .i64 x.ev) /\ w.cell? ⟨bt, 2, none⟩ = some (.int .i64 x.kp) /\ w.cell? ⟨bt, 3, none⟩ = some (.int .i64 x.sh) :=
 ⟨h, h.bt.at_ 0 rfl, h.bt.at_ 1 rfl, h.bt.at_ 2 rfl, h.bt.at_ 3 rfl⟩
end
theorem Jwl (w : World) (a b c d e f g h : ByteArray) : ∀ (j : Nat) x, [a, b, c, d, e, f, g, h][j]? = some x -> (w.alloc (.cells #[.string a, .string b, .string c, .string d, .string e, .string f, .string g, .string h] 9)).cell? ⟨w.heap.size, 0 + j, none⟩ = some (.string x) := by
 intro j x hj;have hk := cell_of_row (w.alloc (.cells #[.string a, .string b, .string c, .string d, .string e, .string f, .string g, .string h] 9)) w.heap.size j _ _ (0, 0) (heap_alloc_new w _);rw [Nat.zero_add, hk]
 match j, hj with
 | 0, hj => simp at hj; subst hj; rfl
 | 1, hj => simp at hj; subst hj; rfl
 | 2, hj => simp at hj; subst hj; rfl
 | 3, hj => simp at hj; subst hj; rfl
 | 4, hj => simp at hj; subst hj; rfl
 | 5, hj => simp at hj; subst hj; rfl
 | 6, hj => simp at hj; subst hj; rfl
 | 7, hj => simp at hj; subst hj; rfl
def Jmx (t : Ti) : List UInt8 := Lib.join [Jgj, t.nm.toList, Jcc, Lib.itoa t.ev, Jev, Lib.itoa t.kp, Jbn, Lib.itoa t.sh] [32]
theorem Jju {t : Ti} (h : t.Fine) : (Jmx t).length <= 400 := by
 have h1 := print_len (nm := t.nm.toList) (ts := [t]) h.nm (by simpa using h) (by simp)
 have e2 : (Jff t).length = (Jmx t).length + 1 := by
  unfold Jmx;rw [<- Jov t, List.length_append, List.length_singleton]
 have e3 : (Jff t).length <= (printL t.nm.toList [t]).length := by
  unfold printL;simp only [List.flatMap_cons, List.flatMap_nil, List.append_nil, List.length_append];omega
 omega
theorem Jwm (t : Ti) (h : t.Fine) (w : World) :
  Calls Tryz.prog 248 #[.slice (some ⟨w.heap.size, 0, none⟩) 8 8, .string ⟨#[32]⟩]
   (w.alloc (.cells #[.string ⟨#[116, 105, 101, 114]⟩, .string t.nm, .string ⟨#[101, 118, 101, 114, 121]⟩, .string ⟨(Lib.itoa t.ev).toArray⟩, .string ⟨#[107, 101, 101, 112]⟩, .string ⟨(Lib.itoa t.kp).toArray⟩, .string ⟨#[115, 104, 97, 114, 100, 115]⟩, .string ⟨(Lib.itoa t.sh).toArray⟩] 9))
   fun e w' => e = .returned (.string ⟨(Jmx t).toArray⟩) /\ Below (w.heap.size + 1) (w.alloc (.cells #[.string ⟨#[116, 105, 101, 114]⟩, .string t.nm, .string ⟨#[101, 118, 101, 114, 121]⟩, .string ⟨(Lib.itoa t.ev).toArray⟩, .string ⟨#[107, 101, 101, 112]⟩, .string ⟨(Lib.itoa t.kp).toArray⟩, .string ⟨#[115, 104, 97, 114, 100, 115]⟩, .string ⟨(Lib.itoa t.sh).toArray⟩] 9)) w' := by
 have hj : Lib.join (List.map (fun x : ByteArray => x.data.toList) [⟨#[116, 105, 101, 114]⟩, t.nm, ⟨#[101, 118, 101, 114, 121]⟩, ⟨(Lib.itoa t.ev).toArray⟩, ⟨#[107, 101, 101, 112]⟩, ⟨(Lib.itoa t.kp).toArray⟩, ⟨#[115, 104, 97, 114, 100, 115]⟩, ⟨(Lib.itoa t.sh).toArray⟩]) (⟨#[32]⟩ : ByteArray).data.toList = Jmx t := by
  unfold Jmx;rw [ByteArray.toList_eq]; rfl
 have hl := Jju h;have X := Tryz.strings_Join w.heap.size 0 8 [⟨#[116, 105, 101, 114]⟩, t.nm, ⟨#[101, 118, 101, 114, 121]⟩, ⟨(Lib.itoa t.ev).toArray⟩, ⟨#[107, 101, 101, 112]⟩, ⟨(Lib.itoa t.kp).toArray⟩, ⟨#[115, 104, 97, 114, 100, 115]⟩, ⟨(Lib.itoa t.sh).toArray⟩] ⟨#[32]⟩ _ (Jwl w _ _ _ _ _ _ _ _) (by simp) (by simp) (by simp) (by rw [hj]; omega);rw [hj, World.size_alloc] at X;exact X
theorem Jwn (nm : ByteArray) (A : Option Addr) (n c : Nat) (ts : List Ti) (w : World) (hnm : nm.size <= maxLen) (h : Tis w A n ts) (hc : n <= c) (htab : Lib.TabIs Tryz.prog w "internal/strconv.uint64pow10" .u64 Lib.pow10Tab) :
  Calls Tryz.prog 203 #[polV nm A n c] w fun e w' => e = .returned (.tuple #[.string ⟨(Jou nm.toList ts).toArray⟩, .int .i64 (checkR nm.toList ts).1]) /\ Below w.heap.size w w' := by
 have b0 := Bx.new w 63 #[.string nm, .slice A n c];have hb0 : Below w.heap.size w (w.alloc (.cells #[.string nm, .slice A n c] 63)) := (Below.refl _ w).alloc (Nat.le_refl _) _;have q0 := b0.at_ 0 rfl;have q1 := b0.at_ 1 rfl;have HC := zI (check_any nm A n c ts _ hnm (h.below hb0) hc);by_cases hz : (checkR nm.toList ts).1 = 0
 rotate_left
 · have HF := zI (show Jou nm.toList ts = [] from if_neg hz)
   have hz' : ((checkR nm.toList ts).1 != 0) = true := bne_iff_ne.2 hz;rw [HF.out];go_enter Tryz.func203, Tryz.ntmps203
   go_wp2_with (first
    | (go_at_call 55; refine HC.out.mono ?_; rintro e w1 ⟨rfl, hb1⟩))
   go_ret2;exact ⟨rfl, hb0.trans (hb1.mono hb0.size)⟩
 have hck := Jgl hz;obtain ⟨hv, hl1, hl5, hfine, _⟩ := check_fine hck;have HFI := zI hfine;have HPL := zI (fun j => print_len (ts := ts.take j) hv (fun t ht => hfine t (List.mem_of_mem_take ht)) (by rw [List.length_take]; omega));have hln := h.len;have HTI := zI h;have HTAB := zI (Lib.tabBelow_of_tabIs htab)
 have hns : nm.size <= 15 := by
  unfold Jak at hv;simp only [Bool.and_eq_true, decide_eq_true_eq] at hv;rw [<- Jab]; exact hv.1.2
 rw [hck] at HC ⊢;rw [show Jou nm.toList ts = printL nm.toList ts from if_pos hz];clear hz hck hv hfine h htab;go_enter Tryz.func203, Tryz.ntmps203
 go_upto_region 5 with (first
  | (go_at_call 55; refine HC.out.mono ?_; rintro e w1 ⟨rfl, hb1⟩))
 have BL := Bld.fresh w1;have b1 := (b0.below hb1).alloc (.cells #[.pointer none, .slice none 0 0] 226);have hbw : Below w.heap.size w (w1.alloc (.cells #[.pointer none, .slice none 0 0] 226)) := (hb0.trans (hb1.mono hb0.size)).alloc (by have := hb1.size; simp at this; omega) _;have hlt : w.heap.size < w1.heap.size := by have := hb1.size; simp at this; omega
 have hbb : w1.heap.size <= (w1.alloc (.cells #[.pointer none, .slice none 0 0] 226)).heap.size := by simp
 have p0 := b1.at_ 0 rfl;obtain ⟨bb, hbbe⟩ : ∃ bb, bb = w1.heap.size := ⟨_, rfl⟩;rw [<- hbbe] at BL hlt hbb ⊢;generalize w1.alloc (.cells #[.pointer none, .slice none 0 0] 226) = w2 at *;clear hb1 hbbe b0 hb0 q0 q1 HC
 go_wp2_with (first
  | (go_at_call 121; refine (Jlb bb bb [] _ _ BL (by rw [ByteArray.size_append, ByteArray.size_append]; show 0 + (7 + nm.size + 1) <= 1000000; omega) hbb).mono ?_; rintro e w3 ⟨rfl, BL3, hb3⟩
     have b3 := b1.belowB hb3 hlt;have q1 := b3.at_ 1 rfl))
 have hb3w : Below w.heap.size w w3 := hbw.trans (hb3.mono (Nat.le_of_lt hlt));have hB3 : bb <= w3.heap.size := Nat.le_trans hbb hb3.size
 have BL0 : Bld w3 bb bb (printL nm.toList (ts.take 0)) := by
  have e : ([] : List UInt8) ++ ((⟨#[112, 111, 108, 105, 99, 121, 32]⟩ : ByteArray) ++ nm ++ ⟨#[10]⟩).toList = printL nm.toList (ts.take 0) := by
   rw [ByteArray.toList_eq, ByteArray.toList_eq]; simp [printL, Jcu]
  rw [<- e]; exact BL3
 clear BL BL3 hbw hbb p0 hb3 b1;go_loopw [8, 9, 26] (fun _ _ i wr => ∃ j : Nat, j <= n /\ i = .int .i64 j /\ Bld wr bb bb (printL nm.toList (ts.take j)) /\ Bx wr w.heap.size 63 #[.string nm, .slice A n c] /\ Below w.heap.size w wr /\ bb <= wr.heap.size) (fun _ _ i _ => n - (intOf i).toNat)
 case atStart => exact ⟨0, Nat.zero_le _, rfl, BL0, b3, hb3w, hB3⟩
 case round =>
  clear BL0 b3 hb3w hB3 q1;obtain ⟨j, hj, rfl, BL, bp, hbr, hB⟩ := hrel;have hpl := HPL.out j;by_cases hlt2 : j < n
  · have K : j < ts.length := by omega
    have hok := HTI.out.ok _ (List.getElem_mem K);have HFX := zI (HFI.out _ (List.getElem_mem K));have HNX := zI (show printL nm.toList (ts.take (j + 1)) = printL nm.toList (ts.take j) ++ Jff (ts[j]'K) from by rw [List.take_succ_eq_append_getElem K, Jt0]);obtain ⟨b, off, rfl, hbl, X⟩ := (HTI.out.below hbr).get K;obtain ⟨r0, r1, r2, r3⟩ := X;generalize (ts[j]'K) = x at *;have hbx := (Below.refl wr.heap.size wr).alloc (Nat.le_refl _) (.cells #[.string x.nm, .int .i64 x.ev, .int .i64 x.kp, .int .i64 x.sh] 119);have S0 : PrS w _ w.heap.size wr.heap.size bb _ #[.string x.nm, .int .i64 x.ev, .int .i64 x.kp, .int .i64 x.sh] _ := ⟨bp.below hbx, Bx.new wr 119 _, BL.below hbx, hbr.trans (hbx.mono hbr.size)⟩;have g0 : (0 : Int) <= (j : Int) := (by omega);have g1 : (j : Int) < (n : Int) := (by omega);have S0D := S0.below (Below.refl _ _).drew;have hB2 : bb <= (wr.alloc (.cells #[.string x.nm, .int .i64 x.ev, .int .i64 x.kp, .int .i64 x.sh] 119)).heap.size := by simp; omega
    obtain ⟨e1, e2⟩ := hok.ev;obtain ⟨k1, k2⟩ := hok.kp;obtain ⟨s1, s2⟩ := hok.sh;clear BL bp hbx hbl;go_upto_region 9 with fail
    generalize wr.alloc (.cells #[.string x.nm, .int .i64 x.ev, .int .i64 x.kp, .int .i64 x.sh] 119) = w4 at *;generalize wr.heap.size = bt at *;clear r0 r1 r2 r3 hbr;generalize printL nm.toList (ts.take j) = l at *
    go_region_held3 (fun w' => PrS w w' w.heap.size bt bb #[.string nm, .slice (some ⟨b, off, none⟩) n c] #[.string x.nm, .int .i64 x.ev, .int .i64 x.kp, .int .i64 x.sh] l /\ w'.cell? ⟨bt, 0, none⟩ = some (.string x.nm) /\ w'.cell? ⟨bt, 1, none⟩ = some (.int .i64 x.ev) /\ w'.cell? ⟨bt, 2, none⟩ = some (.int .i64 x.kp) /\ w'.cell? ⟨bt, 3, none⟩ = some (.int .i64 x.sh))
     (first
       | assumption
       | exact S0D.full
       | (go_split_ands; exact PrS.full (by assumption))
       | (go_split_ands; exact PrS.full (PrS.below (by assumption) hbq))
       | (go_split_ands; exact PrS.full (PrS.below (by assumption) ((Below.refl _ _).alloc (Nat.le_refl _) _))))
     (first
       | (go_at_call 247; go_split_ands; refine (Jts _ _ (by assumption) (by assumption) (HTAB.out _ (PrS.bel (by assumption)))).mono ?_; rintro e wq ⟨rfl, hbq⟩))
    all_goals
     go_split_ands;have S1 : PrS w (wq.alloc (.cells #[.string ⟨#[116, 105, 101, 114]⟩, .string x.nm, .string ⟨#[101, 118, 101, 114, 121]⟩, .string ⟨(Lib.itoa x.ev).toArray⟩, .string ⟨#[107, 101, 101, 112]⟩, .string ⟨(Lib.itoa x.kp).toArray⟩, .string ⟨#[115, 104, 97, 114, 100, 115]⟩, .string ⟨(Lib.itoa x.sh).toArray⟩] 9)) w.heap.size bt bb #[.string nm, .slice (some ⟨b, off, none⟩) n c] #[.string x.nm, .int .i64 x.ev, .int .i64 x.kp, .int .i64 x.sh] l := (by assumption);have hqb : bb <= wq.heap.size := by have := (S1.bl); obtain ⟨_, v, hv, _⟩ | ⟨_, v, hv, _⟩ := this <;> (have := lt_of_block hv; simp at this; omega)
     have HJ := zI (Jwm x HFX.out wq);have HS1 := zI S1;have HTL := zI (Jju HFX.out);have htl := Jju HFX.out;clear S0 S0D S1
     go_wp2_with (first
      | (go_at_call 248; refine HJ.out.mono ?_; rintro e w5 ⟨rfl, hb5⟩
         have S5 := zI (HS1.out.below (by simpa using hb5));have hb55 : bb <= w5.heap.size := by have := hb5.size; simp at this; omega)
      | (go_at_call 121; refine (Jlb bb bb l _ _ S5.out.bl (by rw [ByteArray.size_append]; have := HTL.out; show _ + ((Jmx x).toArray.size + 1) <= 1000000; simp; omega) hb55).mono ?_; rintro e w6 ⟨rfl, BL6, hb6⟩
         have bp6 := S5.out.bp.belowB hb6 hlt;have hbr6 := S5.out.bel.trans (hb6.mono (Nat.le_of_lt hlt));have hB6 := Nat.le_trans hb55 hb6.size))
     go_roundw
     case rel =>
      refine ⟨j + 1, by omega, by go_num, ?_, bp6, hbr6, hB6⟩;rw [HNX.out]
      have e : ((⟨(Jmx x).toArray⟩ : ByteArray) ++ ⟨#[10]⟩).toList = Jff x := by
       rw [<- Jov x, ByteArray.toList_eq]; simp [Jmx]
      rw [e] at BL6;exact BL6
     case measure => simp [intOf]; omega
  · have hje : j = n := by omega
    subst hje;have hd : decide ((j : Int) < (j : Int)) = false := decide_eq_false (by omega);rw [List.take_of_length_le (by omega)] at BL hpl
    go_wp2_with (first
     | (go_at_call 123; refine (J3m bb bb _ _ BL hB).mono ?_; rintro e w5 ⟨rfl, hb5⟩))
    go_ret2;exact ⟨rfl, hbr.trans (hb5.mono (Nat.le_of_lt hlt))⟩
end Go.Proofs.YtalkkhafcfhglaaGreatDoor.Py
