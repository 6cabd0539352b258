/-
  PolicyChecks, the walk.
-/
import Derived.Test.YtnnamhomapagiaaGreatDoorPolAlive
import Derived.Test.YtnnamhomapagiaaGreatDoorPolIn
import Derived.Test.YtnnamhomapagiaaGreatDoorRefPrint2
import Derived.Test.YtnnamhomapagiaaGreatDoorRefSame
import Derived.Test.YtnnamhomapagiaaGreatDoorBookApartTiers
import Derived.Test.YtnnamhomapagiaaGreatDoorBookTiersA
import Derived.Test.YtnnamhomapagiaaGreatDoorBookTiersL
import Derived.Deep.DeepCutAuto
import Derived.Deep.RegionHeld3
namespace Go.Proofs.YtnnamhomapagiaaGreatDoor
open Go.ChangeShapes Go.WideShapes Go.ChangeAt Go.RowKit Go.Deep

theorem sameP_self (x : ByteArray) (a : List Ti) : sameP x x a a = true := sameP_iff.2 ⟨rfl, rfl⟩
theorem Stands.bx {B g b : Nat} {T T' : TypeId} {w w' : World} {cs : Array Value} (h : Stands B g T w w') (hx : Bx w b T' cs) (hg : b ≠ g) (hne : T' ≠ T) : Bx w' b T' cs :=
  ⟨(h.block b hx.lt hg (.inr fun c fr e => by rw [hx.blk] at e; injection e with e; injection e with _ e; exact hne e)).trans hx.blk⟩
/-- What stands throughout a round. -/
structure PcS (w0 w : World) (bp bq bk : Nat) (pv qv fs : Array Value) : Prop where
  p : Bx w bp 24 pv
  q : Bx w bq 24 qv
  k : Bx w bk 37 fs
  bel : Below w0.heap.size w0 w
theorem PcS.below {w0 w w' : World} {bp bq bk : Nat} {pv qv fs : Array Value} (h : PcS w0 w bp bq bk pv qv fs) (hb : Below w.heap.size w w') : PcS w0 w' bp bq bk pv qv fs := ⟨h.p.below hb, h.q.below hb, h.k.below hb, h.bel.trans (hb.mono h.bel.size)⟩
/-- .. and with what was lent. -/
structure PcR (w0 wr w : World) (bp bq bk bx g cap n B : Nat) (pv qv fs : Array Value) (nm : ByteArray) (ts : List Ti) : Prop where
  s : PcS w0 w bp bq bk pv qv fs
  x : Bx w bx 24 #[.string nm, .slice (some ⟨g, 0, none⟩) n cap]
  br : Below wr.heap.size wr w
  row : w.ownsRow B 49 4 (.slice (some ⟨g, 0, none⟩) (n + 1) cap) (n + 1) ((ts ++ [lentTiers]).flatMap Ti.cells)
  len : ts.length = n
  ok : ∀ t ∈ ts, t.Ok
  few : n ≤ 10
section
variable {w0 wr w w' : World} {bp bq bk bx g cap n B : Nat} {pv qv fs : Array Value} {nm : ByteArray} {ts : List Ti}
theorem PcR.below (h : PcR w0 wr w bp bq bk bx g cap n B pv qv fs nm ts) (hb : Below w.heap.size w w') : PcR w0 wr w' bp bq bk bx g cap n B pv qv fs nm ts :=
  ⟨h.s.below hb, h.x.below hb, h.br.trans (hb.mono h.br.size), bk_below h.row hb, h.len, h.ok, h.few⟩
theorem PcR.cap_le (h : PcR w0 wr w bp bq bk bx g cap n B pv qv fs nm ts) : n ≤ cap := by
  rcases h.row.2 with ⟨e, _⟩ | ⟨g', cap', cur, e, _, _, h1, _⟩
  · cases e
  · cases e; omega
theorem lent_ok : lentTiers.Ok := ⟨by show ByteArray.empty.size ≤ maxLen; decide, by decide, by decide, by decide⟩
theorem tis_of_lent (h : w.ownsRow B 49 4 (.slice (some ⟨g, 0, none⟩) (n + 1) cap) (n + 1) ((ts ++ [lentTiers]).flatMap Ti.cells)) (hl : ts.length = n) (hok : ∀ t ∈ ts, t.Ok) (hn : n ≤ 10) : Tis w (some ⟨g, 0, none⟩) n ts := by
  obtain ⟨A', c', e, ht⟩ := own_tis h (by rw [List.length_append, hl]; rfl) (fun t ht => by
    rcases List.mem_append.1 ht with h1 | h1
    · exact hok t h1
    · rw [List.mem_singleton.1 h1]; exact lent_ok) (by unfold maxLen; omega)
  cases e
  have h2 := own_slice_take ht (j := n) (by omega)
  rwa [List.take_left' hl] at h2
theorem PcR.tis (h : PcR w0 wr w bp bq bk bx g cap n B pv qv fs nm ts) : Tis w (some ⟨g, 0, none⟩) n ts := by
  exact tis_of_lent h.row h.len h.ok h.few
/-- What the last test reads. -/
structure PcE (w0 w1 w : World) (bp bq bx bc : Nat) (pv qv xv cv : Array Value) : Prop where
  p : Bx w bp 24 pv
  q : Bx w bq 24 qv
  x : Bx w bx 24 xv
  c : Bx w bc 24 cv
  bel : Below w0.heap.size w0 w
  bel1 : Below w1.heap.size w1 w
theorem PcE.below {w0 w1 w w' : World} {bp bq bx bc : Nat} {pv qv xv cv : Array Value} (h : PcE w0 w1 w bp bq bx bc pv qv xv cv) (hb : Below w.heap.size w w') : PcE w0 w1 w' bp bq bx bc pv qv xv cv :=
  ⟨h.p.below hb, h.q.below hb, h.x.below hb, h.c.below hb, h.bel.trans (hb.mono h.bel.size), h.bel1.trans (hb.mono h.bel1.size)⟩
theorem PcE.full {w0 w1 w : World} {bp bq bx bc : Nat} {p0 p1 q0 q1 x0 x1 c0 c1 : Value} (h : PcE w0 w1 w bp bq bx bc #[p0, p1] #[q0, q1] #[x0, x1] #[c0, c1]) :
    PcE w0 w1 w bp bq bx bc #[p0, p1] #[q0, q1] #[x0, x1] #[c0, c1] ∧ w.cell? ⟨bp, 0, none⟩ = some p0 ∧ w.cell? ⟨bp, 1, none⟩ = some p1 ∧ w.cell? ⟨bq, 0, none⟩ = some q0 ∧ w.cell? ⟨bq, 1, none⟩ = some q1 ∧ w.cell? ⟨bx, 0, none⟩ = some x0 ∧ w.cell? ⟨bx, 1, none⟩ = some x1 ∧ w.cell? ⟨bc, 0, none⟩ = some c0 ∧ w.cell? ⟨bc, 1, none⟩ = some c1 :=
  ⟨h, h.p.at_ 0 rfl, h.p.at_ 1 rfl, h.q.at_ 0 rfl, h.q.at_ 1 rfl, h.x.at_ 0 rfl, h.x.at_ 1 rfl, h.c.at_ 0 rfl, h.c.at_ 1 rfl⟩
end
def noFs : Array Value := #[.slice none 0 0, .slice none 0 0, .slice none 0 0, .slice none 0 0, .slice none 0 0, .slice none 0 0, .slice none 0 0, .slice none 0 0, .slice none 0 0, .slice none 0 0, .slice none 0 0, .slice none 0 0, .slice none 0 0, .slice none 0 0, .slice none 0 0, .slice none 0 0]
theorem noFs_at (i : Nat) (h : i < 16) : noFs[i]? = some (.slice none 0 0) := by
  have : i = 0 ∨ i = 1 ∨ i = 2 ∨ i = 3 ∨ i = 4 ∨ i = 5 ∨ i = 6 ∨ i = 7 ∨ i = 8 ∨ i = 9 ∨ i = 10 ∨ i = 11 ∨ i = 12 ∨ i = 13 ∨ i = 14 ∨ i = 15 := by omega
  rcases this with rfl | rfl | rfl | rfl | rfl | rfl | rfl | rfl | rfl | rfl | rfl | rfl | rfl | rfl | rfl | rfl <;> rfl
theorem bkTiers_nil (w : World) (B : Nat) : BkTiers w B noFs [] := ⟨⟨.slice none 0 0, [], .slice none 0 0, [], rfl, rfl, World.ownsRow_nil _ _ _ _, World.ownsRow_nil _ _ _ _, .inl rfl, Kept.nil _ _, Kept.nil _ _⟩, by simp⟩
set_option maxRecDepth 100000 in
set_option maxHeartbeats 1000000 in
theorem walk_PolicyChecks {v0 v1 : Value} (x y : ByteArray × Option Addr × Nat × Nat × List Ti) (w : World) (hm : ∃ m : Int, w.cell? ⟨0, 0, none⟩ = some (.int .i64 m)) (htab : Lib.TabIs Tryz.prog w "internal/strconv.uint64pow10" .u64 Lib.pow10Tab)
    (hx : PolArg w v0 x) (hy : PolArg w v1 y) :
    Calls Tryz.prog 3 #[v0, v1] w fun e w' => e = .returned (.bool true) ∧ Below w.heap.size w w' := by
  obtain ⟨nm, A, n, c, ts⟩ := x
  obtain ⟨nm2, B, m, d, us⟩ := y
  obtain ⟨rfl, hnm, hts, hc⟩ := hx
  obtain ⟨rfl, hnm2, hus, hd⟩ := hy
  simp only at hnm hts hc hnm2 hus hd ⊢
  have hlt0 : 0 < w.heap.size := by obtain ⟨m, h⟩ := hm; have := block_lt_of_cell h; simpa using this
  have HALIVE := Lib.hid (fun W (hW : Below w.heap.size w W) => alive_any W (hm.imp fun m h => (hW.cell (p := ⟨0, 0, none⟩) hlt0).trans h) (Lib.tabBelow_of_tabIs htab W hW))
  have HTAB := Lib.hid (Lib.tabBelow_of_tabIs htab)
  have HT := Lib.hid hts
  have HU := Lib.hid hus
  clear hm htab hlt0
  have hb0 : Below w.heap.size w ((w.alloc (.cells #[.string nm, .slice A n c] 24)).alloc (.cells #[.string nm2, .slice B m d] 24)) := ((Below.refl _ _).alloc (Nat.le_refl _) _).alloc (by simp) _
  have bp := (Bx.new w 24 #[.string nm, .slice A n c]).alloc (.cells #[.string nm2, .slice B m d] 24)
  have bq := Bx.new (w.alloc (.cells #[.string nm, .slice A n c] 24)) 24 #[.string nm2, .slice B m d]
  rw [World.size_alloc] at bq
  have p0 := bp.at_ 0 rfl
  have p1 := bp.at_ 1 rfl
  go_enter Tryz.func3, Tryz.ntmps3
  go_upto_region 1 with fail
  generalize (w.alloc (.cells #[.string nm, .slice A n c] 24)).alloc (.cells #[.string nm2, .slice B m d] 24) = w1 at *
  have hbx := hb0
  go_upto_region 4 with (first
    | (go_at_call 4; (with_reducible refine (small_any nm A n c ts _ hnm (HT.out.below hb0)).mono ?_); rintro e w2 ⟨b1, rfl, hs1, hb2⟩
       have hbx := hb0.trans (hb2.mono hb0.size)
       have bp2 := bp.below hb2
       have bq2 := bq.below hb2
       have p0 := bp2.at_ 0 rfl
       have p1 := bp2.at_ 1 rfl
       have q0 := bq2.at_ 0 rfl
       have q1 := bq2.at_ 1 rfl)
    | (go_at_call 4; refine (small_any nm2 B m d us _ hnm2 (HU.out.below hbx)).mono ?_; rintro e w3 ⟨b2, rfl, hs2, hb3⟩
       have bp3 := bp2.below hb3
       have bq3 := bq2.below hb3
       have p0 := bp3.at_ 0 rfl
       have p1 := bp3.at_ 1 rfl
       have hbx := hbx.trans (hb3.mono hbx.size))
    | (go_at_call 5; refine (HALIVE.out _ hbx).mono ?_; rintro e w5 ⟨rfl, hb5⟩
       have hfin := hbx.trans (hb5.mono hbx.size)))
  all_goals try (go_ret; exact ⟨rfl, hfin⟩)
  have hnT : n ≤ 10 := (hs1 (by assumption)).1
  have hb2t : b2 = true := by simpa using ‹(!b2) = false›
  subst hb2t
  simp only [Bool.not_true]
  have hba := (Below.refl w3.heap.size w3).alloc (Nat.le_refl _) (.cells noFs 37)
  have S0 : PcS w _ w.heap.size (w.heap.size + 1) w3.heap.size _ _ noFs := ⟨bp3.below hba, (bq2.below hb3).below hba, Bx.new w3 37 noFs, hbx.trans (hba.mono hbx.size)⟩
  have hw3 : w.heap.size + 2 ≤ w3.heap.size := by have := (bq2.below hb3).lt; omega
  rw [show (.cells #[.slice none 0 0, .slice none 0 0, .slice none 0 0, .slice none 0 0, .slice none 0 0, .slice none 0 0, .slice none 0 0, .slice none 0 0, .slice none 0 0, .slice none 0 0, .slice none 0 0, .slice none 0 0, .slice none 0 0, .slice none 0 0, .slice none 0 0, .slice none 0 0] 37 : Obj) = .cells noFs 37 from rfl]
  have hBk : w3.heap.size < (w3.alloc (.cells noFs 37)).heap.size := by simp
  obtain ⟨Wb, hWb⟩ : ∃ Wb, Wb = w3.alloc (.cells noFs 37) := ⟨_, rfl⟩
  rw [← hWb] at S0 hBk ⊢
  obtain ⟨bk, hbk⟩ : ∃ bk, bk = w3.heap.size := ⟨_, rfl⟩
  rw [← hbk] at S0 hBk hw3 ⊢
  clear hWb hbk hba hs1 hs2 hb2 hb3 bp bq bp2 bq2 bp3 p0 p1 q0 q1 hbx hb0
  go_wp2_with fail
  go_loopw [6, 7, 8, 9, 10, 11, 12, 13, 14, 15, 16] (fun k _ _ _ _ _ _ _ _ _ _ wr => ∃ (j : Nat) (fs : Array Value) (ls : List (List Ti)), j ≤ 2 ∧ k = .int .i64 j ∧ PcS w wr w.heap.size (w.heap.size + 1) bk #[.string nm, .slice A n c] #[.string nm2, .slice B m d] fs ∧ BkTiers wr Wb.heap.size fs ls ∧ Hid (ls.length = j) ∧ Hid (∀ l ∈ ls, l.length ≤ 50000) ∧ Hid (∀ i, i < 16 → i ≠ 8 → i ≠ 9 → fs[i]? = some (.slice none 0 0)) ∧ Wb.heap.size ≤ wr.heap.size) (fun k _ _ _ _ _ _ _ _ _ _ _ => 2 - (intOf k).toNat)
  case atStart => exact ⟨0, noFs, [], by omega, rfl, S0, bkTiers_nil _ _, Lib.hid rfl, Lib.hid (by simp), Lib.hid (fun i h _ _ => noFs_at i h), Nat.le_refl _⟩
  case round =>
    clear S0
    obtain ⟨j, fs, ls, hj, rfl, S, HK, HLS, HLF, HFS, hBw⟩ := hrel
    by_cases hlt : j < 2
    · have p0 := S.p.at_ 0 rfl
      have p1 := S.p.at_ 1 rfl
      have g0 : (0 : Int) ≤ (j : Int) := by omega
      have g1 : (j : Int) < 2 := by omega
      go_upto_region 8 with fail
      have hax := (Below.refl wr.heap.size wr).alloc (Nat.le_refl _) (.cells #[.string nm, .slice A n c] 24)
      have S4 := S.below hax
      have X4 := Bx.new wr 24 #[.string nm, .slice A n c]
      have hw4 : wr.heap.size < (wr.alloc (.cells #[.string nm, .slice A n c] 24)).heap.size := by simp
      obtain ⟨w4, hw4e⟩ : ∃ w4, w4 = wr.alloc (.cells #[.string nm, .slice A n c] 24) := ⟨_, rfl⟩
      obtain ⟨bx, hbxe⟩ : ∃ bx, bx = wr.heap.size := ⟨_, rfl⟩
      rw [← hw4e] at hax S4 X4 hw4 ⊢
      rw [← hbxe] at X4 hw4 ⊢
      have hbk : bk < bx := by omega
      have hwx : wr.heap.size ≤ bx := by omega
      clear hw4e hbxe p0 p1
      have p0 := S4.p.at_ 0 rfl
      have p1 := S4.p.at_ 1 rfl
      go_upto_region 9 with (go_at_call 6; refine (lentTiers_any A n c ts _ (HT.out.below S4.bel).sl HT.out.len (by omega)).mono ?_; rintro e w5 ⟨g, cap, rfl, hrow, hb5⟩
                             have S5 := S4.below hb5
                             have X5 := X4.below hb5
                             have y1 := X5.at_ 1 rfl
                             have f1 := X5.free 1)
      have hgx : w4.heap.size ≤ g := (hrow.lt g rfl).1
      have hbr6 : Below wr.heap.size wr (w5.setCell ⟨bx, 1, none⟩ (.slice (some ⟨g, 0, none⟩) n cap)) := (hax.trans (hb5.mono hax.size)).setCell (p := ⟨bx, 1, none⟩) (by show wr.heap.size ≤ bx; omega) _
      have R6 : PcR w wr (w5.setCell ⟨bx, 1, none⟩ (.slice (some ⟨g, 0, none⟩) n cap)) w.heap.size (w.heap.size + 1) bk bx g cap n w4.heap.size _ _ fs nm ts :=
        ⟨⟨S5.p.other (by show w.heap.size ≠ bx; omega) _, S5.q.other (by show w.heap.size + 1 ≠ bx; omega) _, S5.k.other (by show bk ≠ bx; omega) _, S5.bel.setCell (p := ⟨bx, 1, none⟩) (by show w.heap.size ≤ bx; omega) _⟩,
          X5.set 1 _, hbr6, own_far hrow (fun g' hg' => by cases hg'; show g ≠ bx; omega) _, HT.out.len, HT.out.ok, hnT⟩
      generalize w5.setCell ⟨bx, 1, none⟩ (.slice (some ⟨g, 0, none⟩) n cap) = w6 at *
      clear hrow hb5 S5 X5 y1 f1 hbr6 S4 X4 hax
      have p0 := R6.s.p.at_ 0 rfl
      have p1 := R6.s.p.at_ 1 rfl
      have y0 := R6.x.at_ 0 rfl
      have y1 := R6.x.at_ 1 rfl
      have hcap := R6.cap_le
      go_upto_region 14 with (first
        | (go_at_call 7; refine (check_any nm (some ⟨g, 0, none⟩) n cap ts _ hnm R6.tis hcap).mono ?_; rintro e w7 ⟨rfl, hb7⟩
           have R7 := R6.below hb7
           have p0 := R7.s.p.at_ 0 rfl
           have p1 := R7.s.p.at_ 1 rfl
           have y0 := R7.x.at_ 0 rfl
           have y1 := R7.x.at_ 1 rfl)
        | (go_at_call 8; refine (refCheck_any nm A n c ts _ hnm (HT.out.below R7.s.bel)).mono ?_; rintro e w8 ⟨rfl, hb8⟩
           have R8 := R7.below hb8
           have p0 := R8.s.p.at_ 0 rfl
           have p1 := R8.s.p.at_ 1 rfl
           have y0 := R8.x.at_ 0 rfl
           have y1 := R8.x.at_ 1 rfl)
        | (go_at_call 9; refine (print_any nm (some ⟨g, 0, none⟩) n cap ts _ hnm R8.tis hcap (HTAB.out _ R8.s.bel)).mono ?_; rintro e w9 ⟨rfl, hb9⟩
           have R9 := R8.below hb9
           have p0 := R9.s.p.at_ 0 rfl
           have p1 := R9.s.p.at_ 1 rfl
           have y0 := R9.x.at_ 0 rfl
           have y1 := R9.x.at_ 1 rfl)
        | (go_at_call 10; refine (refPrint_any nm A n c ts _ hnm (HT.out.below R9.s.bel)).mono ?_; rintro e w10 ⟨rfl, hb10⟩
           have R10 := R9.below hb10
           have p0 := R10.s.p.at_ 0 rfl
           have p1 := R10.s.p.at_ 1 rfl
           have y0 := R10.x.at_ 0 rfl
           have y1 := R10.x.at_ 1 rfl)
        | (go_at_call 11; refine (copyP_any nm (some ⟨g, 0, none⟩) n cap ts _ R10.tis (by omega)).mono ?_; rintro e w11 ⟨A', c', rfl, hrow, hb11⟩
           have R11 := R10.below hb11))
      have hac := (Below.refl w11.heap.size w11).alloc (Nat.le_refl _) (.cells #[.string nm, .slice A' n c'] 24)
      have R12 := R11.below hac
      have C12 := Bx.new w11 24 #[.string nm, .slice A' n c']
      have row12 := bk_low (bk_below hrow hac) R10.br.size
      have hbc : bk ≠ w11.heap.size := by have := R11.s.k.lt; omega
      obtain ⟨w12, hw12⟩ : ∃ w12, w12 = w11.alloc (.cells #[.string nm, .slice A' n c'] 24) := ⟨_, rfl⟩
      obtain ⟨bc, hbce⟩ : ∃ bc, bc = w11.heap.size := ⟨_, rfl⟩
      rw [← hw12] at R12 C12 row12 ⊢
      rw [← hbce] at C12 hbc ⊢
      clear hw12 hbce hac R6 R7 R8 R9 R10 R11 hb7 hb8 hb9 hb10 hb11 hrow p0 p1 y0 y1
      have c1 := C12.at_ 1 rfl
      have HADD := Lib.hid (addTiers_any bk Wb.heap.size fs ls (.slice A' n c') ts wr w12 HK R12.br R12.s.k (by rw [HT.out.len]; exact row12) HT.out.ok (by rw [HLS.out]; omega) (by rw [HT.out.len]; omega) hBw)
      go_upto_region 15 with (go_at_call 12; refine HADD.out.mono ?_; rintro e w13 ⟨rfl, ⟨fs', K13, BK13, hfs⟩, hst⟩)
      have hsz13 := hst.size
      have hrs12 := R12.br.size
      have hbel13 : Below w12.heap.size w12 w12 := Below.refl _ _
      have bel13 : Below w.heap.size w w13 := R12.s.bel.trans (hst.below (by omega) (by omega) R12.s.bel.size)
      have C13 := hst.bx C12 (Ne.symm hbc) (by decide)
      have X13 := hst.bx R12.x (by omega) (by decide)
      have P13 : PcS w w13 w.heap.size (w.heap.size + 1) bk #[.string nm, .slice A n c] #[.string nm2, .slice B m d] fs' := ⟨hst.bx R12.s.p (by omega) (by decide), hst.bx R12.s.q (by omega) (by decide), K13, bel13⟩
      have row13 := hst.own R12.s.k row12 (by decide) (by decide)
      have xrow13 := hst.own R12.s.k R12.row (by decide) (by decide)
      have TX := tis_of_lent xrow13 HT.out.len HT.out.ok hnT
      have TC : Tis w13 A' n ts := by obtain ⟨A2, c2, e, hh⟩ := own_tis row13 HT.out.len HT.out.ok (by unfold maxLen; omega); cases e; exact hh
      have HXQ := Lib.hid (fun W (hW : Below w.heap.size w W) (hW2 : Below w13.heap.size w13 W) => same_any nm nm2 (some ⟨g, 0, none⟩) B n m cap d ts us W (TX.below hW2) (HU.out.below hW))
      have HPQ := Lib.hid (fun W (hW : Below w.heap.size w W) => refSameG_any nm nm2 A B n m c d ts us W (HT.out.below hW) (HU.out.below hW))
      have HXP := Lib.hid (fun W (hW : Below w.heap.size w W) (hW2 : Below w13.heap.size w13 W) => same_any nm nm (some ⟨g, 0, none⟩) A n n cap c ts ts W (TX.below hW2) (HT.out.below hW))
      have HCP := Lib.hid (fun W (hW : Below w.heap.size w W) (hW2 : Below w13.heap.size w13 W) => refSameG_any nm nm A' A n n c' c ts ts W (TC.below hW2) (HT.out.below hW))
      have HST := Lib.hid (fun W (hW : Below w.heap.size w W) (hW2 : Below w13.heap.size w13 W) => staysTiers_any g cap n w4.heap.size c A ts W (bk_below xrow13 hW2) (HT.out.below hW) HT.out.len HT.out.ok (by omega))
      rw [sameP_self] at HXP HCP
      obtain ⟨Bq, hBq⟩ : ∃ Bq, sameP nm nm2 ts us = Bq := ⟨_, rfl⟩
      rw [hBq] at HXQ HPQ
      have hBB : (Bq != Bq) = false := by cases Bq <;> rfl
      have E13 : PcE w w13 w13 w.heap.size (w.heap.size + 1) bx bc #[.string nm, .slice A n c] #[.string nm2, .slice B m d] #[.string nm, .slice (some ⟨g, 0, none⟩) n cap] #[.string nm, .slice A' n c'] := ⟨P13.p, P13.q, X13, C13, bel13, Below.refl _ _⟩
      have E13D := E13.below (Below.refl _ _).drew
      have HK13 := Lib.hid K13
      have HBK13 := Lib.hid BK13
      have HFS13 := Lib.hid hfs
      generalize printT nm.toList ts = pt at *
      generalize checkR nm.toList ts = ck at *
      have hck1 : (ck.1 != ck.1) = false := bne_self_eq_false _
      have hck2 : (ck.2 != ck.2) = false := bne_self_eq_false _
      clear hBq TX TC row13 xrow13 C13 X13 P13 K13 BK13 hfs hst R12 C12 row12 c1 S HK hbel13 HADD
      go_region_held3 (fun w' => PcE w w13 w' w.heap.size (w.heap.size + 1) bx bc #[.string nm, .slice A n c] #[.string nm2, .slice B m d] #[.string nm, .slice (some ⟨g, 0, none⟩) n cap] #[.string nm, .slice A' n c'] ∧ w'.cell? ⟨w.heap.size, 0, none⟩ = some (.string nm) ∧ w'.cell? ⟨w.heap.size, 1, none⟩ = some (.slice A n c) ∧ w'.cell? ⟨w.heap.size + 1, 0, none⟩ = some (.string nm2) ∧ w'.cell? ⟨w.heap.size + 1, 1, none⟩ = some (.slice B m d) ∧ w'.cell? ⟨bx, 0, none⟩ = some (.string nm) ∧ w'.cell? ⟨bx, 1, none⟩ = some (.slice (some ⟨g, 0, none⟩) n cap) ∧ w'.cell? ⟨bc, 0, none⟩ = some (.string nm) ∧ w'.cell? ⟨bc, 1, none⟩ = some (.slice A' n c'))
        (first
          | assumption
          | exact E13D.full
          | (go_split_ands; exact PcE.full (by assumption))
          | (go_split_ands; exact PcE.full (PcE.below (by assumption) hbo)))
        (first
          | (go_at_call 13; go_split_ands; (with_reducible refine (HXQ.out _ (PcE.bel (by assumption)) (PcE.bel1 (by assumption))).mono ?_); rintro e wo ⟨rfl, hbo⟩)
          | (go_at_call 13; go_split_ands; (with_reducible refine (HXP.out _ (PcE.bel (by assumption)) (PcE.bel1 (by assumption))).mono ?_); rintro e wo ⟨rfl, hbo⟩)
          | (go_at_call 14; go_split_ands; (with_reducible refine (HPQ.out _ (PcE.bel (by assumption))).mono ?_); rintro e wo ⟨rfl, hbo⟩)
          | (go_at_call 14; go_split_ands; (with_reducible refine (HCP.out _ (PcE.bel (by assumption)) (PcE.bel1 (by assumption))).mono ?_); rintro e wo ⟨rfl, hbo⟩)
          | (go_at_call 15; go_split_ands; (with_reducible refine (HST.out _ (PcE.bel (by assumption)) (PcE.bel1 (by assumption))).mono ?_); rintro e wo ⟨rfl, hbo⟩))
      all_goals
        go_split_ands
        have S1 : PcE w w13 wo w.heap.size (w.heap.size + 1) bx bc #[.string nm, .slice A n c] #[.string nm2, .slice B m d] #[.string nm, .slice (some ⟨g, 0, none⟩) n cap] #[.string nm, .slice A' n c'] := by assumption
        have HS1 := Lib.hid S1
        clear E13 E13D HXQ HPQ HXP HCP HST S1 hbo
        go_wp2_with fail
        go_roundw
        case rel =>
          exact ⟨j + 1, fs', ls ++ [ts], by omega, by go_num, ⟨HS1.out.p, HS1.out.q, HK13.out.below HS1.out.bel1, HS1.out.bel⟩, HBK13.out.below HS1.out.bel1, Lib.hid (by rw [List.length_append, HLS.out]; rfl),
            Lib.hid (fun l hl => by
              rcases List.mem_append.1 hl with h1 | h1
              · exact HLF.out l h1
              · rw [List.mem_singleton.1 h1, HT.out.len]; omega), Lib.hid (fun i h1 h2 h3 => (HFS13.out i h2 h3).trans (HFS.out i h1 h2 h3)), by have := HS1.out.bel1.size; omega⟩
        case measure => simp [intOf]; omega
    · have hje : j = 2 := by omega
      subst hje
      have g2 : decide ((2 : Int) < 2) = false := decide_eq_false (by omega)
      have HAP := Lib.hid (fun W (hW : Below wr.heap.size wr W) => apartTiers_any bk Wb.heap.size fs ls W (S.k.below hW) (HK.below hW) (by rw [HLS.out]; decide) HLF.out (Nat.le_trans hBw hW.size) HFS.out)
      have HSB := Lib.hid S.bel
      clear HK S
      go_wp2_with (first
        | (go_at_call 5; refine (HALIVE.out _ HSB.out).mono ?_; rintro e w5 ⟨rfl, hb5⟩)
        | (go_at_call 16; refine (HAP.out _ hb5).mono ?_; rintro e w6 ⟨rfl, hb6⟩))
      go_ret
      exact ⟨rfl, (HSB.out.trans (hb5.mono HSB.out.size)).trans (hb6.mono (by omega))⟩
end Go.Proofs.YtnnamhomapagiaaGreatDoor
