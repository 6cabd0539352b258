/-
  The document's own table: Add.
-/
import Derived.Test.YtcglbbabfkbcbadGreatM12
import Derived.Test.YtcglbbabfkbcbadGreatM13
import Derived.Test.YtcglbbabfkbcbadGreatM7
import Derived.Test.YtcglbbabfkbcbadGreatM1
import Derived.Test.YtcglbbabfkbcbadGreatBook
import Derived.Outline
import Derived.Deep.CutBlock
import Derived.Deep.DeepCutAuto
namespace Go.Proofs.YtcglbbabfkbcbadGreat
open Go.RowKit Go.Deep

/-- A table of the document's at a block: its records in a row of its own. -/
structure RTab (w : World) (g B : Nat) (ev : Int) (l : List Rc) (v : Value) : Prop where
  box : Bx w g 72 #[.int .i64 ev, v]
  row : w.ownsRow B 61 7 v l.length (l.flatMap Rc.cells)
  tab : Tab l
  ok : ∀ r ∈ l, r.Ok
theorem ad_full {W0 w' : World} {b0 g : Nat} {x : Rc} {ev : Int} (HX : RcCells W0 b0 0 x) (HB : W0.cell? ⟨g, 0, none⟩ = some (.int .i64 ev)) (hb : Below W0.heap.size W0 w') :
    Below W0.heap.size W0 w' ∧ w'.cell? ⟨b0, 0, none⟩ = some (.string x.nm) ∧ w'.cell? ⟨b0, 1, none⟩ = some (.int .i64 x.st) ∧ w'.cell? ⟨b0, 2, none⟩ = some (.int .i64 x.ag.c) ∧ w'.cell? ⟨b0, 3, none⟩ = some (.int .i64 x.ag.hi) ∧ w'.cell? ⟨b0, 4, none⟩ = some (.int .u64 x.ag.lo) ∧ w'.cell? ⟨b0, 5, none⟩ = some (.int .i64 x.ag.mn) ∧ w'.cell? ⟨b0, 6, none⟩ = some (.int .i64 x.ag.mx) ∧ w'.cell? ⟨g, 0, none⟩ = some (.int .i64 ev) := by
  have K : ∀ p v, W0.cell? p = some v → w'.cell? p = some v := fun p v h => (hb.cell (p := p) (World.block_lt_of_cell? _ _ h)).trans h
  exact ⟨hb, K _ _ HX.c0, K _ _ (by simpa using HX.c1), K _ _ (by simpa using HX.c2), K _ _ (by simpa using HX.c3), K _ _ (by simpa using HX.c4), K _ _ (by simpa using HX.c5), K _ _ (by simpa using HX.c6), K _ _ HB⟩
theorem ad_loop {W0 w' : World} {b0 g b off : Nat} {x y : Rc} {sl : Value} (HX : RcCells W0 b0 0 x) (HQ : W0.cell? ⟨g, 1, none⟩ = some sl) (HY : RcCells W0 b off y) (hb : Below W0.heap.size W0 w') :
    Below W0.heap.size W0 w' ∧ w'.cell? ⟨b0, 0, none⟩ = some (.string x.nm) ∧ w'.cell? ⟨b0, 1, none⟩ = some (.int .i64 x.st) ∧ w'.cell? ⟨b0, 2, none⟩ = some (.int .i64 x.ag.c) ∧ w'.cell? ⟨b0, 3, none⟩ = some (.int .i64 x.ag.hi) ∧ w'.cell? ⟨b0, 4, none⟩ = some (.int .u64 x.ag.lo) ∧ w'.cell? ⟨b0, 5, none⟩ = some (.int .i64 x.ag.mn) ∧ w'.cell? ⟨b0, 6, none⟩ = some (.int .i64 x.ag.mx) ∧ w'.cell? ⟨g, 1, none⟩ = some sl ∧
    w'.cell? ⟨b, off, none⟩ = some (.string y.nm) ∧ w'.cell? ⟨b, off + 1, none⟩ = some (.int .i64 y.st) ∧ w'.cell? ⟨b, off + 2, none⟩ = some (.int .i64 y.ag.c) ∧ w'.cell? ⟨b, off + 3, none⟩ = some (.int .i64 y.ag.hi) ∧ w'.cell? ⟨b, off + 4, none⟩ = some (.int .u64 y.ag.lo) ∧ w'.cell? ⟨b, off + 5, none⟩ = some (.int .i64 y.ag.mn) ∧ w'.cell? ⟨b, off + 6, none⟩ = some (.int .i64 y.ag.mx) := by
  have K : ∀ p v, W0.cell? p = some v → w'.cell? p = some v := fun p v h => (hb.cell (p := p) (World.block_lt_of_cell? _ _ h)).trans h
  exact ⟨hb, K _ _ HX.c0, K _ _ (by simpa using HX.c1), K _ _ (by simpa using HX.c2), K _ _ (by simpa using HX.c3), K _ _ (by simpa using HX.c4), K _ _ (by simpa using HX.c5), K _ _ (by simpa using HX.c6), K _ _ HQ, K _ _ HY.c0, K _ _ HY.c1, K _ _ HY.c2, K _ _ HY.c3, K _ _ HY.c4, K _ _ HY.c5, K _ _ HY.c6⟩
theorem row_cap {w : World} {B : Nat} {e : TypeId} {k n c : Nat} {A : Option Addr} {xs : List Value} (h : w.ownsRow B e k (.slice A n c) n xs) : n ≤ c := by
  rcases h.2 with ⟨e, h0⟩ | ⟨g, cap, cur, e, _, _, h1, _⟩
  · omega
  · injection e with _ e2 e3; omega
theorem flat_len7 (l : List Rc) : (l.flatMap Rc.cells).length = l.length * 7 := by
  induction l with
  | nil => rfl
  | cons a r ih => rw [List.flatMap_cons, List.length_append, ih, List.length_cons, rc_len]; omega
theorem flat_cut (l : List Rc) (k : Nat) (hk : k ≤ l.length) : (l.flatMap Rc.cells).take (k * 7) = (l.take k).flatMap Rc.cells ∧ (l.flatMap Rc.cells).drop (k * 7) = (l.drop k).flatMap Rc.cells := by
  have h1 : l.flatMap Rc.cells = (l.take k).flatMap Rc.cells ++ (l.drop k).flatMap Rc.cells := by rw [← List.flatMap_append, List.take_append_drop]
  have h2 : ((l.take k).flatMap Rc.cells).length = k * 7 := by rw [flat_len7, List.length_take]; congr 1; omega
  constructor
  · rw [h1, ← h2, List.take_left]
  · rw [h1, ← h2, List.drop_left]
theorem rcs_from {w : World} {A : Option Addr} {n c k : Nat} {l : List Rc} (h : Rcs w A n l) (hk : k ≤ n) :
    ∃ A2, (∀ W, (Instr.slice 49 (.slice A n c) (some (.int .i64 (k : Int))) none none).run Tryz.prog W = .ok (.slice A2 (n - k) (c - k)) W) ∧ (n ≤ c → Sl w A2 ((l.drop k).flatMap Rc.cells)) := by
  have hz : ∀ W, (sizeOf (Tryz.prog.elem 49)).run Tryz.prog W = .ok 7 W := fun W => by kernel_rfl
  refine ⟨if c = k then A else A.map (·.add (k * 7)), fun W => run_slice_from (W := W) Tryz.underlying49 7 (hz W) A n c k hk, fun hc => ?_⟩
  have hs := h.sl.dropC (k * 7) (c = k) (fun e => by rw [flat_len7, h.len]; omega)
  rw [(flat_cut l k (by rw [h.len]; exact hk)).2] at hs
  exact hs
theorem rcs_to {w : World} {A : Option Addr} {n c k : Nat} {l : List Rc} (h : Rcs w A n l) (hk : k ≤ n) (hc : n ≤ c) :
    (∀ W, (Instr.slice 49 (.slice A n c) none (some (.int .i64 (k : Int))) none).run Tryz.prog W = .ok (.slice A k c) W) ∧ Sl w A ((l.take k).flatMap Rc.cells) := by
  have hz : ∀ W, (sizeOf (Tryz.prog.elem 49)).run Tryz.prog W = .ok 7 W := fun W => by kernel_rfl
  refine ⟨fun W => run_slice_to (W := W) Tryz.underlying49 7 (hz W) A n c k (by omega), ?_⟩
  have hs := h.sl.takeC (k * 7)
  rw [(flat_cut l k (by rw [h.len]; exact hk)).1] at hs
  exact hs
theorem ten_full {w w0 w' : World} {g : Nat} {z : Rc} (BZ : Bx w0 w.heap.size 61 z.cells.toArray) (hne : w.heap.size ≠ g) (gr : w0.grownBy w' (some g)) :
    w0.grownBy w' (some g) ∧ w'.cell? ⟨w.heap.size, 0, none⟩ = some (.string z.nm) ∧ w'.cell? ⟨w.heap.size, 1, none⟩ = some (.int .i64 z.st) ∧ w'.cell? ⟨w.heap.size, 2, none⟩ = some (.int .i64 z.ag.c) ∧ w'.cell? ⟨w.heap.size, 3, none⟩ = some (.int .i64 z.ag.hi) ∧ w'.cell? ⟨w.heap.size, 4, none⟩ = some (.int .u64 z.ag.lo) ∧ w'.cell? ⟨w.heap.size, 5, none⟩ = some (.int .i64 z.ag.mn) ∧ w'.cell? ⟨w.heap.size, 6, none⟩ = some (.int .i64 z.ag.mx) := by
  have b := BZ.grown gr (fun e => hne (Option.some.inj e))
  exact ⟨gr, b.at_ 0 rfl, b.at_ 1 rfl, b.at_ 2 rfl, b.at_ 3 rfl, b.at_ 4 rfl, b.at_ 5 rfl, b.at_ 6 rfl⟩
theorem grown_set {a b : World} {g : Nat} (h : a.grownBy b (some g)) (i : Nat) (v : Value) : a.grownBy (b.setCell ⟨g, i, none⟩ v) (some g) := h.trans (bk_grown_set b g i v)
theorem add_fin {w w4 wc : World} {g B n k m : Nat} {ev : Int} {l rest : List Rc} {x z : Rc} {A : Option Addr} {c : Nat} {vc : Value} (h : RTab w g B ev l (.slice A n c)) (hx : x.ag.Ok) (hadd : addR ev l x = l.take k ++ z :: rest) (hz : z.Ok) (hr : ∀ r ∈ rest, r.Ok) (hk : (l.take k).length = k) (hm : rest.length = m)
    (hbw : Below w.heap.size w w4) (gx : Bx wc g 72 #[.int .i64 ev, .slice A n c]) (ho : wc.ownsRow w4.heap.size 61 7 vc (k + 1 + m) ((l.take k).flatMap Rc.cells ++ z.cells ++ rest.flatMap Rc.cells)) (hb : Below w4.heap.size w4 wc) :
    (∃ v', RTab (wc.setCell ⟨g, 1, none⟩ vc) g w.heap.size ev (addR ev l x) v') ∧ w.grownBy (wc.setCell ⟨g, 1, none⟩ vc) (some g) := by
  refine ⟨⟨vc, gx.set 1 vc, ?_, Tab.add h.tab hx, ?_⟩, grown_set (bk_grown (hbw.trans (hb.mono hbw.size)) (some g)) 1 vc⟩
  · have e1 : (addR ev l x).length = k + 1 + m := by rw [hadd, List.length_append, List.length_cons, hk, hm]; omega
    have e2 : (addR ev l x).flatMap Rc.cells = (l.take k).flatMap Rc.cells ++ z.cells ++ rest.flatMap Rc.cells := by rw [hadd, List.flatMap_append, List.flatMap_cons, List.append_assoc]
    rw [e1, e2]
    exact bk_low (ho.kept (bk_grown_set wc g 1 vc) (.inr fun e => gx.not_row ho (by decide) e.symm)) hbw.size
  · intro r hr'
    rw [hadd] at hr'
    rcases List.mem_append.1 hr' with h1 | h1
    · exact h.ok r (List.mem_of_mem_take h1)
    · rcases List.mem_cons.1 h1 with h1 | h1
      · rw [h1]; exact hz
      · exact hr r h1
/-- How far the document's loop goes: those ahead of k are less, the one at k is not. -/
structure StopAt (l : List Rc) (x : Rc) (k : Nat) : Prop where
  lt : ∀ j (_ : j < k) (h' : j < l.length), l[j].lt x
  no : ∀ h : k < l.length, ¬ l[k].lt x
set_option linter.unusedSimpArgs false in
set_option maxRecDepth 100000 in
set_option maxHeartbeats 4000000 in
theorem refAdd_any (g B : Nat) (ev : Int) (l : List Rc) (v : Value) (x : Rc) (w : World) (h : RTab w g B ev l v) (hr : rightR ev x = true) (hx : x.Ok) (hV : x.ag.V) (he : 1 ≤ ev ∧ ev ≤ 9223372036854775807) (hl : l.length ≤ 100000) :
    Calls Tryz.prog 33 #[.pointer (some ⟨g, 0, none⟩), x.val] w fun e w' => e = .returned (.bool true) ∧ (∃ v', RTab w' g w.heap.size ev (addR ev l x) v') ∧ w.grownBy w' (some g) := by
  obtain ⟨A, c, rfl, hR⟩ := own_rcs h.row h.ok (by unfold maxLen; omega)
  have hr' := hr
  unfold rightR at hr'
  simp only [Bool.and_eq_true, decide_eq_true_eq] at hr'
  obtain ⟨⟨⟨hv, h0⟩, ho⟩, hg⟩ := hr'
  have hst := bd_i64 hx.st
  have HV := Lib.hid hv
  have HG := Lib.hid hg
  have HO := Lib.hid (show decide (x.st % ev = 0) = true from by rw [← tmod_pos h0]; simpa [onB, he.1] using ho)
  have HR := Lib.hid hr
  have hd0 : decide (x.st < 0) = false := decide_eq_false (by omega)
  obtain ⟨W0, hW0⟩ : ∃ W0, W0 = w.alloc (.cells #[.string x.nm, .int .i64 x.st, .int .i64 x.ag.c, .int .i64 x.ag.hi, .int .u64 x.ag.lo, .int .i64 x.ag.mn, .int .i64 x.ag.mx] 61) := ⟨_, rfl⟩
  have HX := Lib.hid (show RcCells W0 w.heap.size 0 x from by rw [hW0]; exact RcCells.new w x)
  have hb0 : Below w.heap.size w W0 := by rw [hW0]; exact (Below.refl _ _).alloc (Nat.le_refl _) _
  have HBX := Lib.hid (h.box.below hb0)
  have HB := Lib.hid (HBX.out.at_ 0 (v := .int .i64 ev) rfl)
  have HRW := Lib.hid hR
  have HRR := Lib.hid (hR.below hb0)
  have HH := Lib.hid h
  clear h hr hv hg ho hR
  go_enter Tryz.func33, Tryz.ntmps33
  go_upto_region 1 with fail
  rw [← hW0]
  have HW0 := Lib.hid hW0
  clear hW0
  have AD0 := ad_full HX.out HB.out ((Below.refl W0.heap.size W0).drew)
  go_region_held3 (fun w' => Below W0.heap.size W0 w' ∧ w'.cell? ⟨w.heap.size, 0, none⟩ = some (.string x.nm) ∧ w'.cell? ⟨w.heap.size, 1, none⟩ = some (.int .i64 x.st) ∧ w'.cell? ⟨w.heap.size, 2, none⟩ = some (.int .i64 x.ag.c) ∧ w'.cell? ⟨w.heap.size, 3, none⟩ = some (.int .i64 x.ag.hi) ∧ w'.cell? ⟨w.heap.size, 4, none⟩ = some (.int .u64 x.ag.lo) ∧ w'.cell? ⟨w.heap.size, 5, none⟩ = some (.int .i64 x.ag.mn) ∧ w'.cell? ⟨w.heap.size, 6, none⟩ = some (.int .i64 x.ag.mx) ∧ w'.cell? ⟨g, 0, none⟩ = some (.int .i64 ev))
    (first
      | assumption
      | exact AD0
      | (go_split_ands; exact ad_full HX.out HB.out (by assumption))
      | (go_split_ands; exact ad_full HX.out HB.out (Below.trans (by assumption) (hbv.mono (Below.size (by assumption))))))
    (first
      | (go_at_call 31; refine (refName_any x.nm _ hx.nm).mono ?_; rw [HV.out]; rintro e wq ⟨rfl, rfl⟩)
      | (go_at_call 83; refine (refOn_any x.st ev _ ⟨h0, hst.2⟩ he).mono ?_; rw [HO.out]; rintro e wq ⟨rfl, rfl⟩)
      | (go_at_call 84; refine (refValid_any x.ag _).mono ?_; rw [HG.out]; rintro e wv ⟨rfl, hwv⟩
         have hbv := (show Below _ _ wv from by rw [hwv]; exact (Below.refl _ _).alloc (Nat.le_refl _) _)
         clear hwv))
  go_split_ands
  have hb1 : Below W0.heap.size W0 wv := by assumption
  have RB1 := HRR.out.below hb1
  have BX1 := HBX.out.below hb1
  have q1 := BX1.at_ 1 (v := .slice A l.length c) rfl
  obtain ⟨n, hn⟩ : ∃ n, n = l.length := ⟨_, rfl⟩
  rw [← hn] at q1 hl HH HBX HRR HRW RB1 BX1
  have HN := Lib.hid hn
  clear hn
  have HQ := Lib.hid (HBX.out.at_ 1 (v := .slice A n c) rfl)
  go_upto_block 0 with fail
  obtain ⟨I1, HI1⟩ : ∃ I : Act → World → Prop, Hid (I = fun a' wc => ∃ k : Nat, Fr125 a' [(0, .pointer (some ⟨g, 0, none⟩)), (3, .pointer (some ⟨w.heap.size, 0, none⟩)), (4, .bool false), (5, .int .i64 (k : Int))] ∧ k ≤ n ∧ StopAt l x k ∧ Below W0.heap.size W0 wc) := ⟨_, Lib.hid rfl⟩
  refine wp_cut I1 ?_ ?_
  rotate_left
  · intro J K' hJ hK'
    go_wp2_with fail
    obtain ⟨I2, HI2⟩ : ∃ I : Act → World → Prop, Hid (I = fun a' wc => ∃ k : Nat, Fr125 a' [(0, .pointer (some ⟨g, 0, none⟩)), (3, .pointer (some ⟨w.heap.size, 0, none⟩)), (4, .bool false), (5, .int .i64 (k : Int))] ∧ k ≤ n ∧ (∀ j (_ : j < k) (h' : j < l.length), l[j].lt x) ∧ Below W0.heap.size W0 wc) := ⟨_, Lib.hid rfl⟩
    refine wp_loop I2 (fun a' _ => n - (intOf (a'.tmps.toList.getD 5 undef)).toNat) ?_ ?_
    · rw [HI2.out]; exact ⟨0, ⟨rfl, rfl, rfl, rfl, rfl, rfl, trivial⟩, Nat.zero_le _, fun j h => absurd h (by omega), hb1⟩
    · intro a' wr hI
      rw [HI2.out] at hI
      clear RB1 BX1 q1 hb1
      obtain ⟨k, hfr, hk, hlt, hbr⟩ := hI
      obtain ⟨u, rfl⟩ := fra_cut hfr
      clear hfr
      have q1 := (HBX.out.below hbr).at_ 1 (v := .slice A n c) rfl
      have HLT := Lib.hid hlt
      clear hlt
      by_cases hkn : k < n
      · have K : k < l.length := by rw [← HN.out]; exact hkn
        obtain ⟨b, off, rfl, hbl, Y⟩ := HRR.out.get K
        have HY := Lib.hid Y
        have HNX := Lib.hid (show l[k].lt x → ∀ j (_ : j < k + 1) (h' : j < l.length), l[j].lt x from fun h j hj h' => by
          rcases Nat.lt_or_eq_of_le (show j ≤ k by omega) with e | e
          · exact HLT.out j e h'
          · subst e; exact h)
        have HNO := Lib.hid (show ¬ l[k].lt x → StopAt l x k from fun h => ⟨HLT.out, fun _ => h⟩)
        clear Y
        generalize l[k]'K = y at *
        have AD0 := ad_loop HX.out HQ.out HY.out (hbr.drew)
        have g0 : (0 : Int) ≤ (k : Int) := by omega
        have g1 : (k : Int) < (n : Int) := by omega
        have HLE := Lib.hid (fun W => refLess_any y.nm x.nm y.st x.st (.int .i64 y.ag.c) (.int .i64 y.ag.hi) (.int .u64 y.ag.lo) (.int .i64 y.ag.mn) (.int .i64 y.ag.mx) (.int .i64 x.ag.c) (.int .i64 x.ag.hi) (.int .u64 x.ag.lo) (.int .i64 x.ag.mn) (.int .i64 x.ag.mx) W)
        cases hle : aheadB y.nm.toList y.st x.nm.toList x.st
        · rw [hle] at HLE
          have HST := Lib.hid (HNO.out (fun h => by have := (aheadB_iff _ _ _ _).2 h; rw [hle] at this; cases this))
          clear hle
          go_upto_region 4 with fail
          go_region_held3 (fun w' => Below W0.heap.size W0 w' ∧ w'.cell? ⟨w.heap.size, 0, none⟩ = some (.string x.nm) ∧ w'.cell? ⟨w.heap.size, 1, none⟩ = some (.int .i64 x.st) ∧ w'.cell? ⟨w.heap.size, 2, none⟩ = some (.int .i64 x.ag.c) ∧ w'.cell? ⟨w.heap.size, 3, none⟩ = some (.int .i64 x.ag.hi) ∧ w'.cell? ⟨w.heap.size, 4, none⟩ = some (.int .u64 x.ag.lo) ∧ w'.cell? ⟨w.heap.size, 5, none⟩ = some (.int .i64 x.ag.mn) ∧ w'.cell? ⟨w.heap.size, 6, none⟩ = some (.int .i64 x.ag.mx) ∧ w'.cell? ⟨g, 1, none⟩ = some (.slice (some ⟨b, off, none⟩) n c) ∧ w'.cell? ⟨b, off + k * 7, none⟩ = some (.string y.nm) ∧ w'.cell? ⟨b, off + k * 7 + 1, none⟩ = some (.int .i64 y.st) ∧ w'.cell? ⟨b, off + k * 7 + 2, none⟩ = some (.int .i64 y.ag.c) ∧ w'.cell? ⟨b, off + k * 7 + 3, none⟩ = some (.int .i64 y.ag.hi) ∧ w'.cell? ⟨b, off + k * 7 + 4, none⟩ = some (.int .u64 y.ag.lo) ∧ w'.cell? ⟨b, off + k * 7 + 5, none⟩ = some (.int .i64 y.ag.mn) ∧ w'.cell? ⟨b, off + k * 7 + 6, none⟩ = some (.int .i64 y.ag.mx))
            (first
              | assumption
              | exact AD0
              | (go_split_ands; exact ad_loop HX.out HQ.out HY.out (by assumption))
              | (go_split_ands; exact ad_loop HX.out HQ.out HY.out (Below.trans (by assumption) (hbv.mono (Below.size (by assumption))))))
            (first
              | (go_at_call 85; refine (HLE.out _).mono ?_; rintro e wv ⟨rfl, hbv⟩))
          go_split_ands
          have hb2 : Below W0.heap.size W0 wv := by assumption
          go_wp2_with fail
          exact Met.intro (hJ _ _ (by rw [HI1.out]; exact ⟨k, ⟨rfl, rfl, rfl, rfl, rfl, rfl, trivial⟩, hk, HST.out, hb2⟩))
        · rw [hle] at HLE
          have HST := Lib.hid (HNX.out ((aheadB_iff _ _ _ _).1 hle))
          clear hle
          go_upto_region 4 with fail
          go_region_held3 (fun w' => Below W0.heap.size W0 w' ∧ w'.cell? ⟨w.heap.size, 0, none⟩ = some (.string x.nm) ∧ w'.cell? ⟨w.heap.size, 1, none⟩ = some (.int .i64 x.st) ∧ w'.cell? ⟨w.heap.size, 2, none⟩ = some (.int .i64 x.ag.c) ∧ w'.cell? ⟨w.heap.size, 3, none⟩ = some (.int .i64 x.ag.hi) ∧ w'.cell? ⟨w.heap.size, 4, none⟩ = some (.int .u64 x.ag.lo) ∧ w'.cell? ⟨w.heap.size, 5, none⟩ = some (.int .i64 x.ag.mn) ∧ w'.cell? ⟨w.heap.size, 6, none⟩ = some (.int .i64 x.ag.mx) ∧ w'.cell? ⟨g, 1, none⟩ = some (.slice (some ⟨b, off, none⟩) n c) ∧ w'.cell? ⟨b, off + k * 7, none⟩ = some (.string y.nm) ∧ w'.cell? ⟨b, off + k * 7 + 1, none⟩ = some (.int .i64 y.st) ∧ w'.cell? ⟨b, off + k * 7 + 2, none⟩ = some (.int .i64 y.ag.c) ∧ w'.cell? ⟨b, off + k * 7 + 3, none⟩ = some (.int .i64 y.ag.hi) ∧ w'.cell? ⟨b, off + k * 7 + 4, none⟩ = some (.int .u64 y.ag.lo) ∧ w'.cell? ⟨b, off + k * 7 + 5, none⟩ = some (.int .i64 y.ag.mn) ∧ w'.cell? ⟨b, off + k * 7 + 6, none⟩ = some (.int .i64 y.ag.mx))
            (first
              | assumption
              | exact AD0
              | (go_split_ands; exact ad_loop HX.out HQ.out HY.out (by assumption))
              | (go_split_ands; exact ad_loop HX.out HQ.out HY.out (Below.trans (by assumption) (hbv.mono (Below.size (by assumption))))))
            (first
              | (go_at_call 85; refine (HLE.out _).mono ?_; rintro e wv ⟨rfl, hbv⟩))
          go_split_ands
          have hb2 : Below W0.heap.size W0 wv := by assumption
          go_wp2_with fail
          exact ⟨by rw [HI2.out]; exact ⟨k + 1, ⟨rfl, rfl, rfl, rfl, rfl, rfl, trivial⟩, by omega, HST.out, hb2⟩, show n - (k + 1) < n - k by omega⟩
      · have hd : decide ((k : Int) < (n : Int)) = false := decide_eq_false (by omega)
        have HST := Lib.hid (show StopAt l x k from ⟨HLT.out, fun h => absurd h (by rw [← HN.out]; omega)⟩)
        go_upto_region 4 with fail
        go_quiet (fail)
        have hb2 := below_drewN hbr nq
        go_wp2_with fail
        exact Met.intro (hJ _ _ (by rw [HI1.out]; exact ⟨k, ⟨rfl, rfl, rfl, rfl, rfl, rfl, trivial⟩, hk, HST.out, hb2⟩))
  · intro a' wc hI
    rw [HI1.out] at hI
    clear RB1 BX1 q1 hb1
    obtain ⟨k, hfr, hk, HST, hbc⟩ := hI
    obtain ⟨u, rfl⟩ := fra_cut hfr
    clear hfr
    have hcap : n ≤ c := by have hrw := HH.out.row; rw [← HN.out] at hrw; exact row_cap hrw
    obtain ⟨A2, hfrom, hsl2⟩ := rcs_from (c := c) HRW.out hk
    have HS2 := Lib.hid (hsl2 hcap)
    clear hsl2
    have q1 := (HBX.out.below hbc).at_ 1 (v := .slice A n c) rfl
    go_upto_region 7 with fail
    obtain ⟨bz, hbz⟩ : ∃ bz, bz = (match l[k]? with | some y => x.same y | none => false) := ⟨_, rfl⟩
    have HBZ := Lib.hid hbz
    clear hbz hfrom
    obtain ⟨I3, HI3⟩ : ∃ I : Act → World → Prop, Hid (I = fun a' wc => Fr125 a' [(0, .pointer (some ⟨g, 0, none⟩)), (3, .pointer (some ⟨w.heap.size, 0, none⟩)), (4, .bool false), (5, .int .i64 (k : Int)), (6, .slice A2 (n - k) (c - k)), (90, .bool bz)] ∧ Below W0.heap.size W0 wc) := ⟨_, Lib.hid rfl⟩
    refine wp_cut I3 ?_ ?_
    rotate_left
    · intro J K' hJ hK'
      have g0 : (0 : Int) ≤ (k : Int) := by omega
      have xb : RcCells wc w.heap.size 0 x := HX.out.keep (bk_grown (hbc) none) (by simp)
      have x0 := xb.c0
      have x1 := xb.c1
      simp only [Nat.zero_add] at x1
      by_cases hkn : k < n
      · have K : k < l.length := by rw [← HN.out]; exact hkn
        obtain ⟨b, off, rfl, hbl, Y⟩ := (HRR.out.below hbc).get K
        have HZ := Lib.hid (show bz = x.same (l[k]'K) from by rw [HBZ.out, List.getElem?_eq_getElem K])
        generalize l[k]'K = y at *
        have y0 := Y.c0
        have y1 := Y.c1
        have g1 : (k : Int) < (n : Int) := by omega
        clear Y xb
        by_cases hnm : y.nm = x.nm
        · have e1 : (y.nm.toList == x.nm.toList) = true := by rw [hnm]; exact beq_self_eq_true _
          by_cases hst2 : y.st = x.st
          · have e2 : (y.st == x.st) = true := beq_iff_eq.2 hst2
            have HT := Lib.hid (show bz = true from by rw [HZ.out]; exact Rc.same_iff.2 ⟨hnm.symm, hst2.symm⟩)
            clear hnm hst2
            go_quiet (fail)
            have hb2 := below_drewN hbc nq
            go_wp2_with fail
            exact Met.intro (hJ _ _ (by rw [HI3.out]; exact ⟨⟨rfl, rfl, rfl, rfl, rfl, rfl, rfl, by rw [HT.out]; rfl, trivial⟩, hb2⟩))
          · have e2 : (y.st == x.st) = false := beq_eq_false_iff_ne.2 hst2
            have HT := Lib.hid (show bz = false from by
              rw [HZ.out]
              cases hh : x.same y
              · rfl
              · exact absurd (Rc.same_iff.1 hh).2.symm hst2)
            clear hnm hst2
            go_quiet (fail)
            have hb2 := below_drewN hbc nq
            go_wp2_with fail
            exact Met.intro (hJ _ _ (by rw [HI3.out]; exact ⟨⟨rfl, rfl, rfl, rfl, rfl, rfl, rfl, by rw [HT.out]; rfl, trivial⟩, hb2⟩))
        · have e1 : (y.nm.toList == x.nm.toList) = false := beq_eq_false_iff_ne.2 (fun e => hnm (list_eq' e))
          have HT := Lib.hid (show bz = false from by
            rw [HZ.out]
            cases hh : x.same y
            · rfl
            · exact absurd (Rc.same_iff.1 hh).1.symm hnm)
          clear hnm
          go_quiet (fail)
          have hb2 := below_drewN hbc nq
          go_wp2_with fail
          exact Met.intro (hJ _ _ (by rw [HI3.out]; exact ⟨⟨rfl, rfl, rfl, rfl, rfl, rfl, rfl, by rw [HT.out]; rfl, trivial⟩, hb2⟩))
      · have hd : decide ((k : Int) < (n : Int)) = false := decide_eq_false (by omega)
        have HT := Lib.hid (show bz = false from by rw [HBZ.out, List.getElem?_eq_none (by rw [← HN.out]; omega)])
        go_quiet (fail)
        have hb2 := below_drewN hbc nq
        go_wp2_with fail
        exact Met.intro (hJ _ _ (by rw [HI3.out]; exact ⟨⟨rfl, rfl, rfl, rfl, rfl, rfl, rfl, by rw [HT.out]; rfl, trivial⟩, hb2⟩))
    · intro a' w2 hI
      rw [HI3.out] at hI
      clear q1 hbc
      obtain ⟨hfr, hb2⟩ := hI
      obtain ⟨u, rfl⟩ := fra_90 hfr
      clear hfr
      have hbw2 := hb0.trans (hb2.mono hb0.size)
      have BXx : Bx w2 w.heap.size 61 x.cells.toArray := by
        have h1 : Bx W0 w.heap.size 61 x.cells.toArray := by rw [HW0.out]; exact Bx.new w _ _
        exact h1.below hb2
      go_upto_if 90 with fail
      obtain ⟨I4, HI4⟩ : ∃ I : Act → World → Prop, Hid (I = fun a' wc => ∃ (z : Rc) (rest : List Rc) (A3 : Option Addr) (m c3 : Nat), Fr125 a' [(0, .pointer (some ⟨g, 0, none⟩)), (3, .pointer (some ⟨w.heap.size, 0, none⟩)), (4, .bool false), (5, .int .i64 (k : Int)), (6, .slice A3 m c3)] ∧ Bx wc w.heap.size 61 z.cells.toArray ∧ z.Ok ∧ z.ag.V ∧ rest.length = m ∧ Sl w A3 (rest.flatMap Rc.cells) ∧ addR ev l x = l.take k ++ z :: rest ∧ Below w.heap.size w wc ∧ (∀ r ∈ rest, r.Ok) ∧ rest.length ≤ 100000) := ⟨_, Lib.hid rfl⟩
      refine wp_cut I4 ?_ ?_
      rotate_left
      · intro J K' hJ hK'
        cases bz
        · have HAD := Lib.hid (show addR ev l x = l.take k ++ x :: l.drop k from by
            refine addR_new HH.out.tab HR.out hV (by rw [← HN.out]; exact hk) HST.lt (fun h => Rc.total (HST.no h) ?_)
            have := HBZ.out
            rw [List.getElem?_eq_getElem h] at this
            rw [Rc.same_symm]; exact this.symm)
          go_wp2_with fail
          exact Met.intro (hJ _ _ (by rw [HI4.out]; exact ⟨x, l.drop k, A2, n - k, c - k, ⟨rfl, rfl, rfl, rfl, rfl, rfl, rfl, trivial⟩, BXx, hx, hV, by rw [List.length_drop, ← HN.out], HS2.out, HAD.out, hbw2, fun r hr => HH.out.ok r (List.mem_of_mem_drop hr), by rw [List.length_drop, ← HN.out]; omega⟩))
        · have hkn : k < n := by
            rcases Nat.lt_or_ge k n with e | e
            · exact e
            · have := HBZ.out
              rw [List.getElem?_eq_none (by rw [← HN.out]; exact e)] at this
              cases this
          have K : k < l.length := by rw [← HN.out]; exact hkn
          have hsame : x.same (l[k]'K) = true := by have := HBZ.out; rw [List.getElem?_eq_getElem K] at this; exact this.symm
          have HAD := Lib.hid (addR_old HH.out.tab HR.out hV K (fun j h => HST.lt j h (by omega)) hsame)
          have hyV := HH.out.tab.v _ (List.getElem_mem K)
          have hyO := HH.out.ok _ (List.getElem_mem K)
          obtain ⟨A4, hfrom4, hsl4⟩ := rcs_from (c := c) (k := k + 1) HRW.out (by omega)
          have HS4 := Lib.hid (hsl4 hcap)
          obtain ⟨b, off, rfl, hbl, Y⟩ := (HRW.out.below hbw2).get K
          clear hsame hsl4
          have HLD := Lib.hid (show (l.drop (k + 1)).length = n - (k + 1) from by rw [List.length_drop, ← HN.out])
          generalize l[k]'K = y at *
          have hfrom5 : ∀ W, (Instr.slice 49 (.slice (some ⟨b, off, none⟩) n c) (some (.int .i64 ((k : Int) + 1))) none none).run Tryz.prog W = .ok (.slice A4 (n - (k + 1)) (c - (k + 1))) W := fun W => hfrom4 W
          clear hfrom4
          have hD := (Below.refl w2.heap.size w2).drew
          have xd := BXx.below hD
          have YD := Y.keep (bk_grown hD none) (by simp)
          have y2 := YD.c2
          have y3 := YD.c3
          have y4 := YD.c4
          have y5 := YD.c5
          have y6 := YD.c6
          have q1 := ((HH.out.box.below hbw2).below hD).at_ 1 (v := .slice (some ⟨b, off, none⟩) n c) rfl
          have x2 := xd.at_ 2 (v := .int .i64 x.ag.c) rfl
          have x3 := xd.at_ 3 (v := .int .i64 x.ag.hi) rfl
          have x4 := xd.at_ 4 (v := .int .u64 x.ag.lo) rfl
          have x5 := xd.at_ 5 (v := .int .i64 x.ag.mn) rfl
          have x6 := xd.at_ 6 (v := .int .i64 x.ag.mx) rfl
          have g0 : (0 : Int) ≤ (k : Int) := by omega
          have g1 : (k : Int) < (n : Int) := by omega
          have HME := Lib.hid (fun W => refMerge_V y.ag x.ag hyV hV W)
          have hzV := hyV.both hV
          have hzF := hyO.ag.both hx.ag
          obtain ⟨zg, hzg⟩ : ∃ zg, zg = bothG y.ag x.ag := ⟨_, rfl⟩
          rw [← hzg] at HME HAD hzV hzF
          clear hzg
          have hglt := HH.out.box.lt
          have hbD := hbw2.trans (hD.mono hbw2.size)
          clear Y YD hD
          go_upto_region 8 with fail
          go_region_with (first
            | (go_at_call 86; refine (HME.out _).mono ?_; rintro e wm ⟨rfl, hbm⟩
               have xm := xd.below hbm
               have m2 := xm.at_ 2 (v := .int .i64 x.ag.c) rfl
               have m3 := xm.at_ 3 (v := .int .i64 x.ag.hi) rfl
               have m4 := xm.at_ 4 (v := .int .u64 x.ag.lo) rfl
               have m5 := xm.at_ 5 (v := .int .i64 x.ag.mn) rfl
               have m6 := xm.at_ 6 (v := .int .i64 x.ag.mx) rfl
               have f2 := xm.free 2
               have f3 := xm.free 3
               have f4 := xm.free 4
               have f5 := xm.free 5
               have f6 := xm.free 6))
          all_goals
            have hbm2 := hbD.trans (hbm.mono hbD.size)
            have hbS : Below w.heap.size w (((((wm.setCell ⟨w.heap.size, 2, none⟩ (.int .i64 zg.c)).setCell ⟨w.heap.size, 3, none⟩ (.int .i64 zg.hi)).setCell ⟨w.heap.size, 4, none⟩ (.int .u64 zg.lo)).setCell ⟨w.heap.size, 5, none⟩ (.int .i64 zg.mn)).setCell ⟨w.heap.size, 6, none⟩ (.int .i64 zg.mx)) := ((((hbm2.setCell (Nat.le_refl _) _).setCell (Nat.le_refl _) _).setCell (Nat.le_refl _) _).setCell (Nat.le_refl _) _).setCell (Nat.le_refl _) _
            have XS : Bx (((((wm.setCell ⟨w.heap.size, 2, none⟩ (.int .i64 zg.c)).setCell ⟨w.heap.size, 3, none⟩ (.int .i64 zg.hi)).setCell ⟨w.heap.size, 4, none⟩ (.int .u64 zg.lo)).setCell ⟨w.heap.size, 5, none⟩ (.int .i64 zg.mn)).setCell ⟨w.heap.size, 6, none⟩ (.int .i64 zg.mx)) w.heap.size 61 (Rc.mk x.nm x.st zg).cells.toArray := ((((xm.set 2 (.int .i64 zg.c)).set 3 (.int .i64 zg.hi)).set 4 (.int .u64 zg.lo)).set 5 (.int .i64 zg.mn)).set 6 (.int .i64 zg.mx)
            generalize ((((wm.setCell ⟨w.heap.size, 2, none⟩ (.int .i64 zg.c)).setCell ⟨w.heap.size, 3, none⟩ (.int .i64 zg.hi)).setCell ⟨w.heap.size, 4, none⟩ (.int .u64 zg.lo)).setCell ⟨w.heap.size, 5, none⟩ (.int .i64 zg.mn)).setCell ⟨w.heap.size, 6, none⟩ (.int .i64 zg.mx) = wS at *
            have qS := (HH.out.box.below hbS).at_ 1 (v := .slice (some ⟨b, off, none⟩) n c) rfl
            clear q1 x2 x3 x4 x5 x6 y2 y3 y4 y5 y6 xd
            go_wp2_with fail
            exact Met.intro (hJ _ _ (by rw [HI4.out]; exact ⟨⟨x.nm, x.st, zg⟩, l.drop (k + 1), A4, n - (k + 1), c - (k + 1), ⟨rfl, rfl, rfl, rfl, rfl, rfl, rfl, trivial⟩, XS, ⟨hx.nm, hx.st, hzF⟩, hzV, HLD.out, HS4.out, HAD.out, hbS, fun r hr => HH.out.ok r (List.mem_of_mem_drop hr), by rw [HLD.out]; omega⟩))
      · intro a' wc4 hI
        rw [HI4.out] at hI
        obtain ⟨z, rest, A3, m, c3, hfr, BZ, hzO, hzV, hm, hsl3, HADz, hbw, hrO, hrL⟩ := hI
        obtain ⟨u, rfl⟩ := fra_rest hfr
        clear hfr hbw2 BXx hb2 HS2
        have hglt := HH.out.box.lt
        have hne : w.heap.size ≠ g := by omega
        obtain ⟨hto, hslT⟩ := rcs_to (c := c) HRW.out hk hcap
        have HT4 := Lib.hid (hslT.below hbw)
        have HR4 := Lib.hid (hsl3.below hbw)
        have HLT := Lib.hid (show ((l.take k).flatMap Rc.cells).length = k * 7 from by rw [flat_len7, List.length_take, ← HN.out]; congr 1; omega)
        have HLR := Lib.hid (show (rest.flatMap Rc.cells).length = m * 7 from by rw [flat_len7, hm])
        have hm1 : m ≤ 100000 := by rw [← hm]; exact hrL
        have GBX := HH.out.box.below hbw
        obtain ⟨i0, hi, hz0, hz1, hz2⟩ := info_parts info_rec
        have HI := Lib.hid hi
        have HI0 := Lib.hid hz0
        have HI1 := Lib.hid hz1
        have HI2 := Lib.hid hz2
        clear hi hz0 hz1 hz2 hslT hsl3
        have hbd := (Below.refl wc4.heap.size wc4).drew
        have qd := (GBX.below hbd).at_ 1 (v := .slice A n c) rfl
        have g0 : (0 : Int) ≤ (k : Int) := by omega
        go_upto_region 10 with fail
        refine wp_region_held_drew (S := (fun w' => wc4.grownBy w' (some g) ∧ w'.cell? ⟨w.heap.size, 0, none⟩ = some (.string z.nm) ∧ w'.cell? ⟨w.heap.size, 1, none⟩ = some (.int .i64 z.st) ∧ w'.cell? ⟨w.heap.size, 2, none⟩ = some (.int .i64 z.ag.c) ∧ w'.cell? ⟨w.heap.size, 3, none⟩ = some (.int .i64 z.ag.hi) ∧ w'.cell? ⟨w.heap.size, 4, none⟩ = some (.int .u64 z.ag.lo) ∧ w'.cell? ⟨w.heap.size, 5, none⟩ = some (.int .i64 z.ag.mn) ∧ w'.cell? ⟨w.heap.size, 6, none⟩ = some (.int .i64 z.ag.mx))) (by kernel_rfl) (ten_full BZ hne (bk_grown hbd (some g))) (fun hHeld => ?_)
        generalize World.drew wc4 = wd at *
        refine wpAnyH_take (i := 0) (oi := _) (v := ?_) rfl (by kernel_rfl) (by kernel_rfl) (by kernel_rfl) (fun _ _ _ h => h) (Or.inl ⟨by rfl, ?y0⟩) (by assumption) ?_
        case y0 => intro w hSw; (try dsimp only at hSw); go_split_ands; (go_simp <;> with_reducible rfl)
        (try simp only [List.getElem_toArray, List.getElem_cons_succ, List.getElem_cons_zero, Act.put, List.setIfInBounds_toArray, List.set_cons_zero, List.set_cons_succ])
        refine wpAnyH_take (i := 1) (oi := _) (v := ?_) rfl (by kernel_rfl) (by kernel_rfl) (by kernel_rfl) (fun _ _ _ h => h) (Or.inl ⟨by rfl, ?y1⟩) (by assumption) ?_
        case y1 => intro w hSw; (try dsimp only at hSw); go_split_ands; (go_simp <;> with_reducible rfl)
        (try simp only [List.getElem_toArray, List.getElem_cons_succ, List.getElem_cons_zero, Act.put, List.setIfInBounds_toArray, List.set_cons_zero, List.set_cons_succ])
        refine wpAnyH_take (i := 2) (oi := _) (v := ?_) rfl (by kernel_rfl) (by kernel_rfl) (by kernel_rfl) (fun _ _ _ h => h) (Or.inl ⟨by rfl, ?y2⟩) (by assumption) ?_
        case y2 => intro w hSw; (try dsimp only at hSw); go_split_ands; (go_simp <;> with_reducible rfl)
        (try simp only [List.getElem_toArray, List.getElem_cons_succ, List.getElem_cons_zero, Act.put, List.setIfInBounds_toArray, List.set_cons_zero, List.set_cons_succ])
        refine wpAnyH_take (i := 3) (oi := _) (v := ?_) rfl (by kernel_rfl) (by kernel_rfl) (by kernel_rfl) (fun _ _ _ h => h) (Or.inl ⟨by rfl, ?y3⟩) (by assumption) ?_
        case y3 => intro w hSw; (try dsimp only at hSw); go_split_ands; (go_simp <;> with_reducible rfl)
        (try simp only [List.getElem_toArray, List.getElem_cons_succ, List.getElem_cons_zero, Act.put, List.setIfInBounds_toArray, List.set_cons_zero, List.set_cons_succ])
        refine wpAnyH_take (i := 5) (oi := _) (v := ?_) rfl (by kernel_rfl) (by kernel_rfl) (by kernel_rfl) (fun _ _ _ h => h) (Or.inl ⟨by rfl, ?y5⟩) (by assumption) ?_
        case y5 => intro w hSw; (try dsimp only at hSw); go_split_ands; (go_simp <;> with_reducible rfl)
        (try simp only [List.getElem_toArray, List.getElem_cons_succ, List.getElem_cons_zero, Act.put, List.setIfInBounds_toArray, List.set_cons_zero, List.set_cons_succ])
        refine wpAnyH_take (i := 8) (oi := _) (v := ?_) rfl (by kernel_rfl) (by kernel_rfl) (by kernel_rfl) (fun _ _ _ h => h) (Or.inl ⟨by rfl, ?y8⟩) (by assumption) ?_
        case y8 => intro w hSw; (try dsimp only at hSw); go_split_ands; (go_simp <;> with_reducible rfl)
        (try simp only [List.getElem_toArray, List.getElem_cons_succ, List.getElem_cons_zero, Act.put, List.setIfInBounds_toArray, List.set_cons_zero, List.set_cons_succ])
        refine wpAnyH_take (i := 11) (oi := _) (v := ?_) rfl (by kernel_rfl) (by kernel_rfl) (by kernel_rfl) (fun _ _ _ h => h) (Or.inl ⟨by rfl, ?y11⟩) (by assumption) ?_
        case y11 => intro w hSw; (try dsimp only at hSw); go_split_ands; (go_simp <;> with_reducible rfl)
        (try simp only [List.getElem_toArray, List.getElem_cons_succ, List.getElem_cons_zero, Act.put, List.setIfInBounds_toArray, List.set_cons_zero, List.set_cons_succ])
        refine wpAnyH_ready (rs := [4, 9]) (by kernel_rfl) (by simp) (AllReadyH.cons (o := _) rfl (fun K hK => ?_) (AllReadyH.cons (o := _) rfl (fun K hK => ?_) AllReadyH.nil))
        rotate_left
        · -- the record's list is made first
          go_simp
          refine hK.out _ _ (ten_full BZ hne (bk_grown (hbd.alloc hbd.size _) (some g))) (fun hHeld => ?_)
          clear hK K
          (try simp only [List.getElem_toArray, List.getElem_cons_succ, List.getElem_cons_zero, Act.put, List.setIfInBounds_toArray, List.set_cons_zero, List.set_cons_succ])
          have hb9 := hbd.alloc hbd.size (.cells z.cells.toArray 61)
          have hS9 := Sl.new wd 61 (World.heap wd).size z.cells z.cells.toArray rfl rfl
          rw [show (Obj.cells z.cells.toArray 61) = .cells #[.string z.nm, .int .i64 z.st, .int .i64 z.ag.c, .int .i64 z.ag.hi, .int .u64 z.ag.lo, .int .i64 z.ag.mn, .int .i64 z.ag.mx] 61 from rfl] at hb9 hS9
          generalize (World.heap wd).size = s9 at hS9 ⊢
          generalize World.alloc wd _ = w9 at *
          have qd := (GBX.below hb9).at_ 1 (v := .slice A n c) rfl
          refine wpAnyH_ready (rs := [4]) (by kernel_rfl) (by simp) (AllReadyH.cons (o := _) rfl (fun K hK => ?_) AllReadyH.nil)
          go_simp
          refine hK.out _ _ hHeld (fun hHeld => ?_)
          clear hK K
          (try simp only [List.getElem_toArray, List.getElem_cons_succ, List.getElem_cons_zero, Act.put, List.setIfInBounds_toArray, List.set_cons_zero, List.set_cons_succ])
          refine wpAnyH_take (i := 6) (oi := _) (v := ?_) rfl (by kernel_rfl) (by kernel_rfl) (by kernel_rfl) (fun _ _ _ h => h) (Or.inl ⟨by rfl, ?y6⟩) (by assumption) ?_
          case y6 => intro w hSw; (try dsimp only at hSw); go_split_ands; (go_simp <;> with_reducible rfl)
          (try simp only [List.getElem_toArray, List.getElem_cons_succ, List.getElem_cons_zero, Act.put, List.setIfInBounds_toArray, List.set_cons_zero, List.set_cons_succ])
          refine wpAnyH_ready (rs := [7]) (by kernel_rfl) (by simp) (AllReadyH.cons (o := _) rfl (fun K hK => ?_) AllReadyH.nil)
          refine step_append_sl _ rfl _ _ 49 rfl wc4.heap.size 61 i0 _ 7 64 Tryz.underlying49 HI.out HI0.out HI1.out HI2.out rfl (by decide) (.slice none 0 0) 0 [] rfl (World.ownsRow_nil _ _ _ _) A k c ((l.take k).flatMap Rc.cells) rfl HLT.out (HT4.out.below hb9) (rows_oneCell _) (by unfold maxLen; omega) (by omega) hb9.size ?_
          intro va wa howna hga _
          obtain ⟨Aa, ca, ea, hsa⟩ := bk_sl howna
          rw [Nat.zero_add, List.nil_append] at howna
          rw [Nat.zero_add] at ea
          subst ea
          have hbA := (Below.refl _ _).grown hga (Nat.le_refl _) (fun k hk => by cases hk)
          have hb7 := hb9.trans (hbA.mono hb9.size)
          have HWA := howna
          have hS7 := hS9.below hbA
          clear howna hsa hga hbA
          refine hK.out _ _ (ten_full BZ hne (bk_grown hb7 (some g))) (fun hHeld => ?_)
          clear hK K
          (try simp only [List.getElem_toArray, List.getElem_cons_succ, List.getElem_cons_zero, Act.put, List.setIfInBounds_toArray, List.set_cons_zero, List.set_cons_succ])
          refine wpAnyH_ready (rs := [10]) (by kernel_rfl) (by simp) (AllReadyH.cons (o := _) rfl (fun K hK => ?_) AllReadyH.nil)
          refine step_append_sl _ rfl _ _ 49 rfl wc4.heap.size 61 i0 _ 7 64 Tryz.underlying49 HI.out HI0.out HI1.out HI2.out rfl (by decide) (.slice Aa k ca) k ((l.take k).flatMap Rc.cells) rfl HWA (some ⟨s9, 0, none⟩) 1 1 z.cells rfl rfl hS7 one_cells' (by unfold maxLen; omega) (by omega) hb7.size ?_
          intro vb wb hownb hgb _
          obtain ⟨Ab, cb, eb, hsb⟩ := bk_sl hownb
          subst eb
          have hb10 := hb7.grown hgb hb7.size (fun q hq => (HWA.lt q hq).1)
          clear hsb hgb
          refine hK.out _ _ (ten_full BZ hne (bk_grown hb10 (some g))) (fun hHeld => ?_)
          clear hK K
          (try simp only [List.getElem_toArray, List.getElem_cons_succ, List.getElem_cons_zero, Act.put, List.setIfInBounds_toArray, List.set_cons_zero, List.set_cons_succ])
          refine wpAnyH_ready (rs := [12]) (by kernel_rfl) (by simp) (AllReadyH.cons (o := _) rfl (fun K hK => ?_) AllReadyH.nil)
          refine step_append_sl _ rfl _ _ 49 rfl wc4.heap.size 61 i0 _ 7 64 Tryz.underlying49 HI.out HI0.out HI1.out HI2.out rfl (by decide) (.slice Ab (k + 1) cb) (k + 1) _ rfl hownb A3 m c3 (rest.flatMap Rc.cells) rfl HLR.out (HR4.out.below hb10) (rows_oneCell _) (by unfold maxLen; omega) (by omega) hb10.size ?_
          intro vc wc hownc hgc _
          obtain ⟨Ac, cc, ec, hsc⟩ := bk_sl hownc
          subst ec
          clear hsc
          have hb12 := hb10.grown hgc hb10.size (fun q hq => (hownb.lt q hq).1)
          clear hgc
          refine hK.out _ _ (ten_full BZ hne (bk_grown hb12 (some g))) (fun hHeld => ?_)
          clear hK K
          (try simp only [List.getElem_toArray, List.getElem_cons_succ, List.getElem_cons_zero, Act.put, List.setIfInBounds_toArray, List.set_cons_zero, List.set_cons_succ])
          refine wpAnyH_take (i := 13) (oi := _) (v := ?_) rfl (by kernel_rfl) (by kernel_rfl) (by kernel_rfl) (fun _ _ _ h => h) (Or.inl ⟨by rfl, ?y13⟩) (by assumption) ?_
          case y13 => intro w hSw; (try dsimp only at hSw); go_split_ands; (go_simp <;> with_reducible rfl)
          (try simp only [List.getElem_toArray, List.getElem_cons_succ, List.getElem_cons_zero, Act.put, List.setIfInBounds_toArray, List.set_cons_zero, List.set_cons_succ])
          refine wpAnyH_take (i := 14) (oi := _) (v := ?_) rfl (by kernel_rfl) (by kernel_rfl) (by kernel_rfl) (fun _ _ _ h => h) (Or.inl ⟨by rfl, ?y14⟩) (by assumption) ?_
          case y14 => intro w hSw; (try dsimp only at hSw); go_split_ands; (go_simp <;> with_reducible rfl)
          (try simp only [List.getElem_toArray, List.getElem_cons_succ, List.getElem_cons_zero, Act.put, List.setIfInBounds_toArray, List.set_cons_zero, List.set_cons_succ])
          refine wpAnyH_ready (rs := [15]) (by kernel_rfl) (by simp) (AllReadyH.cons (o := _) rfl (fun K hK => ?_) AllReadyH.nil)
          have gx := GBX.below hb12
          have ge := gx.at_ 1 (v := .slice A n c) rfl
          have gf := gx.free 1
          go_simp
          refine hK.out _ _ (ten_full BZ hne (grown_set (bk_grown hb12 (some g)) 1 _)) (fun hHeld => ?_)
          clear hK K
          (try simp only [List.getElem_toArray, List.getElem_cons_succ, List.getElem_cons_zero, Act.put, List.setIfInBounds_toArray, List.set_cons_zero, List.set_cons_succ])
          refine wpAnyH_done (by kernel_rfl) ?_ _
          have HFIN := Lib.hid (add_fin HH.out hx.ag.ok HADz hzO hrO (by rw [List.length_take, ← HN.out]; omega) hm hbw gx hownc hb12)
          clear gx ge gf hHeld hownc hownb hb12 hb10
          go_wp2_with fail
          go_ret
          exact ⟨rfl, HFIN.out⟩
        go_simp
        refine hK.out _ _ hHeld (fun hHeld => ?_)
        clear hK K
        (try simp only [List.getElem_toArray, List.getElem_cons_succ, List.getElem_cons_zero, Act.put, List.setIfInBounds_toArray, List.set_cons_zero, List.set_cons_succ])
        refine wpAnyH_take (i := 6) (oi := _) (v := ?_) rfl (by kernel_rfl) (by kernel_rfl) (by kernel_rfl) (fun _ _ _ h => h) (Or.inl ⟨by rfl, ?y6⟩) (by assumption) ?_
        case y6 => intro w hSw; (try dsimp only at hSw); go_split_ands; (go_simp <;> with_reducible rfl)
        (try simp only [List.getElem_toArray, List.getElem_cons_succ, List.getElem_cons_zero, Act.put, List.setIfInBounds_toArray, List.set_cons_zero, List.set_cons_succ])
        refine wpAnyH_ready (rs := [7, 9]) (by kernel_rfl) (by simp) (AllReadyH.cons (o := _) rfl (fun K hK => ?_) (AllReadyH.cons (o := _) rfl (fun K hK => ?_) AllReadyH.nil))
        rotate_left
        · -- .. or next
          go_simp
          refine hK.out _ _ (ten_full BZ hne (bk_grown (hbd.alloc hbd.size _) (some g))) (fun hHeld => ?_)
          clear hK K
          (try simp only [List.getElem_toArray, List.getElem_cons_succ, List.getElem_cons_zero, Act.put, List.setIfInBounds_toArray, List.set_cons_zero, List.set_cons_succ])
          have hb9 := hbd.alloc hbd.size (.cells z.cells.toArray 61)
          have hS9 := Sl.new wd 61 (World.heap wd).size z.cells z.cells.toArray rfl rfl
          rw [show (Obj.cells z.cells.toArray 61) = .cells #[.string z.nm, .int .i64 z.st, .int .i64 z.ag.c, .int .i64 z.ag.hi, .int .u64 z.ag.lo, .int .i64 z.ag.mn, .int .i64 z.ag.mx] 61 from rfl] at hb9 hS9
          generalize (World.heap wd).size = s9 at hS9 ⊢
          generalize World.alloc wd _ = w9 at *
          refine wpAnyH_ready (rs := [7]) (by kernel_rfl) (by simp) (AllReadyH.cons (o := _) rfl (fun K hK => ?_) AllReadyH.nil)
          refine step_append_sl _ rfl _ _ 49 rfl wc4.heap.size 61 i0 _ 7 64 Tryz.underlying49 HI.out HI0.out HI1.out HI2.out rfl (by decide) (.slice none 0 0) 0 [] rfl (World.ownsRow_nil _ _ _ _) A k c ((l.take k).flatMap Rc.cells) rfl HLT.out (HT4.out.below hb9) (rows_oneCell _) (by unfold maxLen; omega) (by omega) hb9.size ?_
          intro va wa howna hga _
          obtain ⟨Aa, ca, ea, hsa⟩ := bk_sl howna
          rw [Nat.zero_add, List.nil_append] at howna
          rw [Nat.zero_add] at ea
          subst ea
          have hbA := (Below.refl _ _).grown hga (Nat.le_refl _) (fun k hk => by cases hk)
          have hb7 := hb9.trans (hbA.mono hb9.size)
          have HWA := howna
          have hS7 := hS9.below hbA
          clear howna hsa hga hbA
          refine hK.out _ _ (ten_full BZ hne (bk_grown hb7 (some g))) (fun hHeld => ?_)
          clear hK K
          (try simp only [List.getElem_toArray, List.getElem_cons_succ, List.getElem_cons_zero, Act.put, List.setIfInBounds_toArray, List.set_cons_zero, List.set_cons_succ])
          refine wpAnyH_ready (rs := [10]) (by kernel_rfl) (by simp) (AllReadyH.cons (o := _) rfl (fun K hK => ?_) AllReadyH.nil)
          refine step_append_sl _ rfl _ _ 49 rfl wc4.heap.size 61 i0 _ 7 64 Tryz.underlying49 HI.out HI0.out HI1.out HI2.out rfl (by decide) (.slice Aa k ca) k ((l.take k).flatMap Rc.cells) rfl HWA (some ⟨s9, 0, none⟩) 1 1 z.cells rfl rfl hS7 one_cells' (by unfold maxLen; omega) (by omega) hb7.size ?_
          intro vb wb hownb hgb _
          obtain ⟨Ab, cb, eb, hsb⟩ := bk_sl hownb
          subst eb
          have hb10 := hb7.grown hgb hb7.size (fun q hq => (HWA.lt q hq).1)
          clear hsb hgb
          refine hK.out _ _ (ten_full BZ hne (bk_grown hb10 (some g))) (fun hHeld => ?_)
          clear hK K
          (try simp only [List.getElem_toArray, List.getElem_cons_succ, List.getElem_cons_zero, Act.put, List.setIfInBounds_toArray, List.set_cons_zero, List.set_cons_succ])
          refine wpAnyH_ready (rs := [12]) (by kernel_rfl) (by simp) (AllReadyH.cons (o := _) rfl (fun K hK => ?_) AllReadyH.nil)
          refine step_append_sl _ rfl _ _ 49 rfl wc4.heap.size 61 i0 _ 7 64 Tryz.underlying49 HI.out HI0.out HI1.out HI2.out rfl (by decide) (.slice Ab (k + 1) cb) (k + 1) _ rfl hownb A3 m c3 (rest.flatMap Rc.cells) rfl HLR.out (HR4.out.below hb10) (rows_oneCell _) (by unfold maxLen; omega) (by omega) hb10.size ?_
          intro vc wc hownc hgc _
          obtain ⟨Ac, cc, ec, hsc⟩ := bk_sl hownc
          subst ec
          clear hsc
          have hb12 := hb10.grown hgc hb10.size (fun q hq => (hownb.lt q hq).1)
          clear hgc
          refine hK.out _ _ (ten_full BZ hne (bk_grown hb12 (some g))) (fun hHeld => ?_)
          clear hK K
          (try simp only [List.getElem_toArray, List.getElem_cons_succ, List.getElem_cons_zero, Act.put, List.setIfInBounds_toArray, List.set_cons_zero, List.set_cons_succ])
          refine wpAnyH_take (i := 13) (oi := _) (v := ?_) rfl (by kernel_rfl) (by kernel_rfl) (by kernel_rfl) (fun _ _ _ h => h) (Or.inl ⟨by rfl, ?y13⟩) (by assumption) ?_
          case y13 => intro w hSw; (try dsimp only at hSw); go_split_ands; (go_simp <;> with_reducible rfl)
          (try simp only [List.getElem_toArray, List.getElem_cons_succ, List.getElem_cons_zero, Act.put, List.setIfInBounds_toArray, List.set_cons_zero, List.set_cons_succ])
          refine wpAnyH_take (i := 14) (oi := _) (v := ?_) rfl (by kernel_rfl) (by kernel_rfl) (by kernel_rfl) (fun _ _ _ h => h) (Or.inl ⟨by rfl, ?y14⟩) (by assumption) ?_
          case y14 => intro w hSw; (try dsimp only at hSw); go_split_ands; (go_simp <;> with_reducible rfl)
          (try simp only [List.getElem_toArray, List.getElem_cons_succ, List.getElem_cons_zero, Act.put, List.setIfInBounds_toArray, List.set_cons_zero, List.set_cons_succ])
          refine wpAnyH_ready (rs := [15]) (by kernel_rfl) (by simp) (AllReadyH.cons (o := _) rfl (fun K hK => ?_) AllReadyH.nil)
          have gx := GBX.below hb12
          have ge := gx.at_ 1 (v := .slice A n c) rfl
          have gf := gx.free 1
          go_simp
          refine hK.out _ _ (ten_full BZ hne (grown_set (bk_grown hb12 (some g)) 1 _)) (fun hHeld => ?_)
          clear hK K
          (try simp only [List.getElem_toArray, List.getElem_cons_succ, List.getElem_cons_zero, Act.put, List.setIfInBounds_toArray, List.set_cons_zero, List.set_cons_succ])
          refine wpAnyH_done (by kernel_rfl) ?_ _
          have HFIN := Lib.hid (add_fin HH.out hx.ag.ok HADz hzO hrO (by rw [List.length_take, ← HN.out]; omega) hm hbw gx hownc hb12)
          clear gx ge gf hHeld hownc hownb hb12 hb10
          go_wp2_with fail
          go_ret
          exact ⟨rfl, HFIN.out⟩
        refine step_append_sl _ rfl _ _ 49 rfl wc4.heap.size 61 i0 _ 7 64 Tryz.underlying49 HI.out HI0.out HI1.out HI2.out rfl (by decide) (.slice none 0 0) 0 [] rfl (World.ownsRow_nil _ _ _ _) A k c ((l.take k).flatMap Rc.cells) rfl HLT.out (HT4.out.below hbd) (rows_oneCell _) (by unfold maxLen; omega) (by omega) hbd.size ?_
        intro va wa howna hga _
        obtain ⟨Aa, ca, ea, hsa⟩ := bk_sl howna
        rw [Nat.zero_add, List.nil_append] at howna
        rw [Nat.zero_add] at ea
        subst ea
        have hbA := (Below.refl _ _).grown hga (Nat.le_refl _) (fun k hk => by cases hk)
        have hb7 := hbd.trans (hbA.mono hbd.size)
        have HWA := howna
        clear howna hsa hga hbA
        refine hK.out _ _ (ten_full BZ hne (bk_grown hb7 (some g))) (fun hHeld => ?_)
        clear hK K
        (try simp only [List.getElem_toArray, List.getElem_cons_succ, List.getElem_cons_zero, Act.put, List.setIfInBounds_toArray, List.set_cons_zero, List.set_cons_succ])
        refine wpAnyH_ready (rs := [9]) (by kernel_rfl) (by simp) (AllReadyH.cons (o := _) rfl (fun K hK => ?_) AllReadyH.nil)
        go_simp
        refine hK.out _ _ (ten_full BZ hne (bk_grown (hb7.alloc hb7.size _) (some g))) (fun hHeld => ?_)
        clear hK K
        (try simp only [List.getElem_toArray, List.getElem_cons_succ, List.getElem_cons_zero, Act.put, List.setIfInBounds_toArray, List.set_cons_zero, List.set_cons_succ])
        have hb9 := hb7.alloc hb7.size (.cells z.cells.toArray 61)
        have hS9 := Sl.new wa 61 (World.heap wa).size z.cells z.cells.toArray rfl rfl
        have hrow9 := bk_below HWA ((Below.refl _ _).alloc (Nat.le_refl _) (.cells z.cells.toArray 61))
        rw [show (Obj.cells z.cells.toArray 61) = .cells #[.string z.nm, .int .i64 z.st, .int .i64 z.ag.c, .int .i64 z.ag.hi, .int .u64 z.ag.lo, .int .i64 z.ag.mn, .int .i64 z.ag.mx] 61 from rfl] at hb9 hS9 hrow9
        generalize (World.heap wa).size = s9 at hS9 ⊢
        generalize World.alloc wa _ = w9 at *
        refine wpAnyH_ready (rs := [10]) (by kernel_rfl) (by simp) (AllReadyH.cons (o := _) rfl (fun K hK => ?_) AllReadyH.nil)
        refine step_append_sl _ rfl _ _ 49 rfl wc4.heap.size 61 i0 _ 7 64 Tryz.underlying49 HI.out HI0.out HI1.out HI2.out rfl (by decide) (.slice Aa k ca) k ((l.take k).flatMap Rc.cells) rfl hrow9 (some ⟨s9, 0, none⟩) 1 1 z.cells rfl rfl hS9 one_cells' (by unfold maxLen; omega) (by omega) hb9.size ?_
        intro vb wb hownb hgb _
        obtain ⟨Ab, cb, eb, hsb⟩ := bk_sl hownb
        subst eb
        have hb10 := hb9.grown hgb hb9.size (fun q hq => (hrow9.lt q hq).1)
        clear hsb hgb
        refine hK.out _ _ (ten_full BZ hne (bk_grown hb10 (some g))) (fun hHeld => ?_)
        clear hK K
        (try simp only [List.getElem_toArray, List.getElem_cons_succ, List.getElem_cons_zero, Act.put, List.setIfInBounds_toArray, List.set_cons_zero, List.set_cons_succ])
        refine wpAnyH_ready (rs := [12]) (by kernel_rfl) (by simp) (AllReadyH.cons (o := _) rfl (fun K hK => ?_) AllReadyH.nil)
        refine step_append_sl _ rfl _ _ 49 rfl wc4.heap.size 61 i0 _ 7 64 Tryz.underlying49 HI.out HI0.out HI1.out HI2.out rfl (by decide) (.slice Ab (k + 1) cb) (k + 1) _ rfl hownb A3 m c3 (rest.flatMap Rc.cells) rfl HLR.out (HR4.out.below hb10) (rows_oneCell _) (by unfold maxLen; omega) (by omega) hb10.size ?_
        intro vc wc hownc hgc _
        obtain ⟨Ac, cc, ec, hsc⟩ := bk_sl hownc
        subst ec
        clear hsc
        have hb12 := hb10.grown hgc hb10.size (fun q hq => (hownb.lt q hq).1)
        clear hgc
        refine hK.out _ _ (ten_full BZ hne (bk_grown hb12 (some g))) (fun hHeld => ?_)
        clear hK K
        (try simp only [List.getElem_toArray, List.getElem_cons_succ, List.getElem_cons_zero, Act.put, List.setIfInBounds_toArray, List.set_cons_zero, List.set_cons_succ])
        refine wpAnyH_take (i := 13) (oi := _) (v := ?_) rfl (by kernel_rfl) (by kernel_rfl) (by kernel_rfl) (fun _ _ _ h => h) (Or.inl ⟨by rfl, ?y13⟩) (by assumption) ?_
        case y13 => intro w hSw; (try dsimp only at hSw); go_split_ands; (go_simp <;> with_reducible rfl)
        (try simp only [List.getElem_toArray, List.getElem_cons_succ, List.getElem_cons_zero, Act.put, List.setIfInBounds_toArray, List.set_cons_zero, List.set_cons_succ])
        refine wpAnyH_take (i := 14) (oi := _) (v := ?_) rfl (by kernel_rfl) (by kernel_rfl) (by kernel_rfl) (fun _ _ _ h => h) (Or.inl ⟨by rfl, ?y14⟩) (by assumption) ?_
        case y14 => intro w hSw; (try dsimp only at hSw); go_split_ands; (go_simp <;> with_reducible rfl)
        (try simp only [List.getElem_toArray, List.getElem_cons_succ, List.getElem_cons_zero, Act.put, List.setIfInBounds_toArray, List.set_cons_zero, List.set_cons_succ])
        refine wpAnyH_ready (rs := [15]) (by kernel_rfl) (by simp) (AllReadyH.cons (o := _) rfl (fun K hK => ?_) AllReadyH.nil)
        have gx := GBX.below hb12
        have ge := gx.at_ 1 (v := .slice A n c) rfl
        have gf := gx.free 1
        go_simp
        refine hK.out _ _ (ten_full BZ hne (grown_set (bk_grown hb12 (some g)) 1 _)) (fun hHeld => ?_)
        clear hK K
        (try simp only [List.getElem_toArray, List.getElem_cons_succ, List.getElem_cons_zero, Act.put, List.setIfInBounds_toArray, List.set_cons_zero, List.set_cons_succ])
        refine wpAnyH_done (by kernel_rfl) ?_ _
        have HFIN := Lib.hid (add_fin HH.out hx.ag.ok HADz hzO hrO (by rw [List.length_take, ← HN.out]; omega) hm hbw gx hownc hb12)
        clear gx ge gf hHeld hownc hownb hb12 hb10
        go_wp2_with fail
        go_ret
        exact ⟨rfl, HFIN.out⟩
end Go.Proofs.YtcglbbabfkbcbadGreat
