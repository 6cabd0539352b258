/-
  view.put: samples put into a tier's buckets.
-/
import Derived.Test.YtcglbbabfkbcbadGreatM9
namespace Go.Proofs.YtcglbbabfkbcbadGreat
open Go.ChangeShapes Go.WideShapes Go.ChangeAt Go.RowKit Go.Deep Go.Maps

theorem place_klaw : Go.WideMaps.KeyLaw Tryz.prog 83 := deep_law_laid (by kernel_rfl) (m := 3) (by omega) (of_decide_eq_true (by kernel_rfl)) (by kernel_rfl) (by kernel_rfl)
theorem zero_ints (u : World) : (zeroValue 25).run Tryz.prog u = .ok (.slice none 0 0) u := by kernel_rfl
/-- The buckets in memory: a map at b, its rows from b + 1 on. -/
structure GrpAt (w : World) (b n : Nat) (gs : List Gr) : Prop where
  own : ∃ D : DataW Unit, w.ownsGroups Tryz.prog 83 (b + 1) 3 .i64 b n D ∧ RepV D gs
theorem ownsGroups_kept {w w' : World} {base b n : Nat} {D : DataW Unit} (h : w.ownsGroups Tryz.prog 83 base 3 .i64 b n D) (hb : Below w.heap.size w w') : w'.ownsGroups Tryz.prog 83 base 3 .i64 b n D := by
  obtain ⟨es, clock, h1, F, h3, h4, h5, h6, h7⟩ := h
  have hl := lt_of_block h1
  have hg : w.grownBy w' none := ⟨hb.os, hb.tape, hb.output, hb.size, fun i hi _ => hb.block i hi⟩
  have kept : ∀ {v : Value} {zs : List Int}, w.ownsInts base 3 .i64 v zs → w'.ownsInts base 3 .i64 v zs := fun {v zs} ho => ho.kept hg (by cases v.ownBlock <;> simp)
  obtain ⟨F', hm, _⟩ := F.stay (R' := rowElem w' base 3 .i64) (fun x _ z hz => by
    obtain ⟨zs, ho, rfl⟩ := rowElem_inv hz
    exact rowElem_mk (kept ho))
  refine ⟨es, clock, (hb.block b hl).trans h1, F', h3, by rw [hm]; exact h4, h5, fun x hx zs ho => ?_, h7⟩
  obtain ⟨y, hy⟩ := F.reads x hx
  obtain ⟨z, hz, _⟩ := Go.WideElems.rd_val hy
  obtain ⟨zs', ho', _⟩ := rowElem_inv hz
  rw [ho.unique (kept ho')]
  exact h6 x hx zs' ho'
theorem GrpAt.below {w w' : World} {b n : Nat} {gs : List Gr} (h : GrpAt w b n gs) (hb : Below w.heap.size w w') : GrpAt w' b n gs := by
  obtain ⟨D, h1, h2⟩ := h.own
  exact ⟨D, ownsGroups_kept h1 hb, h2⟩
theorem GrpAt.more {w : World} {b n n' : Nat} {gs : List Gr} (h : GrpAt w b n gs) (hn : n ≤ n') : GrpAt w b n' gs := by
  obtain ⟨D, ⟨es, clock, h1, F, h3, h4, h5, h6, h7⟩, h2⟩ := h.own
  exact ⟨D, ⟨es, clock, h1, F, by omega, h4, h5, fun x hx zs ho => Nat.le_trans (h6 x hx zs ho) hn, h7⟩, h2⟩
theorem GrpAt.lt {w : World} {b n : Nat} {gs : List Gr} (h : GrpAt w b n gs) : b < w.heap.size := by
  obtain ⟨D, ⟨es, clock, h1, _⟩, _⟩ := h.own
  exact lt_of_block h1
theorem one_str (w : World) (s : ByteArray) (o : Nat) (ho : o = w.heap.size) : 0 < 1 → ∃ b off, (some (⟨o, 0, none⟩ : Addr)) = some ⟨b, off, none⟩ ∧ ∀ i (h : i < [s].length), (w.alloc (.cells #[.string s] 9)).cell? ⟨b, off + i, none⟩ = some (.string [s][i]) := by
  intro _
  subst ho
  refine ⟨_, _, rfl, fun i hi => ?_⟩
  have : i = 0 := by simpa using hi
  subst this
  exact cell_of_row _ _ 0 _ _ _ (heap_alloc_new w _)
theorem valid_one (s : ByteArray) (w : World) (hs : s.size ≤ maxLen) (c : Nat) : Calls Tryz.prog 35 #[.slice (some ⟨w.heap.size, 0, none⟩) 1 c] (w.alloc (.cells #[.string s] 9)) fun e w' => e = .returned (.bool (validB s.toList)) ∧ w.alloc (.cells #[.string s] 9) = w' := by
  have h := valid_any (some ⟨w.heap.size, 0, none⟩) 1 c [s] (w.alloc (.cells #[.string s] 9)) (by decide) rfl (fun x hx => by rw [List.mem_singleton.1 hx]; exact hs) (one_str w s _ rfl)
  simpa using h
set_option maxRecDepth 100000 in
set_option maxHeartbeats 8000000 in
theorem put_any (A : Option Addr) (n c : Nat) (B : Option Addr) (m d : Nat) (r : Rch) (i : Int) (C : Option Addr) (k e : Nat) (l : List Smp) (w : World) (h : RchAt w A n B m r) (hn : n ≤ 1000000) (hl : Smps w C k l) (hk : k ≤ 100000) :
    Calls Tryz.prog 25 #[rchV r.now r.nm A n c B m d, .int .i64 i, .slice C k e] w fun x w' => ∃ b gs, x = .returned (.map (some b)) ∧ w.heap.size ≤ b ∧ GrpAt w' b k gs ∧ (gs.map Gr.rc).Perm (viewL r i l) ∧ gs.length ≤ k ∧ gsum gs = (recsOf r i l).length ∧ Below w.heap.size w w' := by
  have hmm := @run_makeMap Tryz.prog
  have b0 := Bx.new w 46 #[.int .i64 r.now, .string r.nm, .slice A n c, .slice B m d]
  have hb0 : Below w.heap.size w (w.alloc (.cells #[.int .i64 r.now, .string r.nm, .slice A n c, .slice B m d] 46)) := (Below.refl _ w).alloc (Nat.le_refl _) _
  have b1 := b0.alloc (.map #[] 0)
  have hb1 := hb0.alloc hb0.size (.map #[] 0)
  have hG0 := World.ownsGroups_made (H := Unit) (w.alloc (.cells #[.int .i64 r.now, .string r.nm, .slice A n c, .slice B m d] 46)) Tryz.prog 83 3 .i64
  rw [show (w.alloc (.cells #[.int .i64 r.now, .string r.nm, .slice A n c, .slice B m d] 46)).heap.size = w.heap.size + 1 from by simp] at hG0
  have HG0 : GrpAt ((w.alloc (.cells #[.int .i64 r.now, .string r.nm, .slice A n c, .slice B m d] 46)).alloc (.map #[] 0)) (w.heap.size + 1) 0 [] := ⟨_, hG0, RepV.nil⟩
  have HL := Lib.hid hl.len
  have HR := Lib.hid h
  have HS := Lib.hid hl
  clear h hl b0 hb0 hG0
  obtain ⟨i0, hi, hz0, hz1, hz2⟩ := info_parts info_int
  have HI := Lib.hid hi
  have HI0 := Lib.hid hz0
  have HI1 := Lib.hid hz1
  have HI2 := Lib.hid hz2
  clear hi hz0 hz1 hz2
  go_enter Tryz.func25, Tryz.ntmps25
  go_wp2_with fail
  go_loopw [16] (fun v wr => ∃ (j : Nat) (gs : List Gr), j ≤ k ∧ v = .int .i64 j ∧ GrpAt wr (w.heap.size + 1) j gs ∧ Hid ((gs.map Gr.rc).Perm (viewL r i (l.take j))) ∧ Hid (gsum gs = (recsOf r i (l.take j)).length) ∧ Bx wr w.heap.size 46 #[.int .i64 r.now, .string r.nm, .slice A n c, .slice B m d] ∧ Below w.heap.size w wr) (fun v _ => k - (intOf v).toNat)
  case atStart => exact ⟨0, [], Nat.zero_le _, rfl, HG0, Lib.hid (List.Perm.refl _), Lib.hid rfl, b1, hb1⟩
  case round =>
    clear b1 hb1 HG0
    obtain ⟨j, gs, hj, rfl, G, HP, HSUM, bx, hbr⟩ := hrel
    by_cases hlt : j < k
    · have K : j < l.length := by rw [HL.out]; exact hlt
      obtain ⟨bs, off, rfl, hbs, X⟩ := (HS.out.below hbr).get K
      have hok := HS.out.ok _ (List.getElem_mem K)
      have HT := Lib.hid (show recsOf r i (l.take (j + 1)) = recsOf r i (l.take j) ++ (itemOf r i (l[j]'K)).toList from by rw [List.take_succ_eq_append_getElem K, recs_snoc])
      have HIR := Lib.hid (fun x => item_right (r := r) (i := i) (x := x) hok)
      have HTab := Lib.hid (show Tab (viewL r i (l.take j)) from tab_addL .nil (fun x hx => (recs_ok (r := r) (i := i) (fun s hs => HS.out.ok s (List.mem_of_mem_take hs)) x hx).2.1.ok))
      obtain ⟨x0, x1, x2⟩ := X
      generalize (l[j]'K) = x at *
      have g0 : (0 : Int) ≤ (j : Int) := by omega
      have g1 : (j : Int) < (k : Int) := by omega
      have hbx := (Below.refl wr.heap.size wr).alloc (Nat.le_refl _) (.cells #[.string x.nm, .int .i64 x.tm, .int .i64 x.vl] 76)
      have HST := Lib.hid (start_any A n c B m d r i x.tm _ (HR.out.below (hbr.trans (hbx.mono hbr.size))) hn hok.tm)
      have XB := Bx.new wr 76 #[.string x.nm, .int .i64 x.tm, .int .i64 x.vl]
      have bx1 := bx.below hbx
      have G1 := G.below hbx
      have hbr1 := hbr.trans (hbx.mono hbr.size)
      have q0 := bx1.at_ 0 rfl
      have q1 := bx1.at_ 1 rfl
      have q2 := bx1.at_ 2 rfl
      have q3 := bx1.at_ 3 rfl
      go_wp2_with fail
      refine HST.out.mono ?_
      rintro e w2 ⟨rfl, hb2⟩
      have XB2 := XB.below hb2
      have bx2 := bx1.below hb2
      have G2 := G1.below hb2
      have hbr2 := hbr1.trans (hb2.mono hbr1.size)
      have y0 := XB2.at_ 0 rfl
      have y1 := XB2.at_ 1 rfl
      have y2 := XB2.at_ 2 rfl
      clear x0 x1 x2 q0 q1 q2 q3 XB bx1 G1 hbr1 hbx hb2 bx G hbr HST
      cases hhas : r.has i x.tm
      · have HN := Lib.hid (show viewL r i (l.take (j + 1)) = viewL r i (l.take j) from by
          unfold viewL; rw [HT.out]; unfold itemOf; rw [hhas]; simp)
        have HN2 := Lib.hid (show recsOf r i (l.take (j + 1)) = recsOf r i (l.take j) from by
          rw [HT.out]; unfold itemOf; rw [hhas]; simp)
        go_wp2_with fail
        go_roundw
        case rel => exact ⟨j + 1, gs, by omega, by go_num, G2.more (by omega), by rw [HN.out]; exact HP, by rw [HN2.out]; exact HSUM, bx2, hbr2⟩
        case measure => simp [intOf]; omega
      · have hnmx := hok.nm
        unfold maxLen at hnmx
        have HV := Lib.hid (valid_one x.nm w2 hok.nm 1)
        cases hval : validB x.nm.toList
        · have HN := Lib.hid (show viewL r i (l.take (j + 1)) = viewL r i (l.take j) from by
            unfold viewL; rw [HT.out]; unfold itemOf; rw [hval]; simp)
          have HN2 := Lib.hid (show recsOf r i (l.take (j + 1)) = recsOf r i (l.take j) from by
            rw [HT.out]; unfold itemOf; rw [hval]; simp)
          rw [hval] at HV
          go_wp2_with fail
          refine HV.out.mono ?_
          rintro e w3 ⟨rfl, rfl⟩
          have hba := (Below.refl w2.heap.size w2).alloc (Nat.le_refl _) (.cells #[.string x.nm] 9)
          go_wp2_with fail
          go_roundw
          case rel => exact ⟨j + 1, gs, by omega, by go_num, (G2.below hba).more (by omega), by rw [HN.out]; exact HP, by rw [HN2.out]; exact HSUM, bx2.below hba, hbr2.trans (hba.mono hbr2.size)⟩
          case measure => simp [intOf]; omega
        · have HIT := Lib.hid (show itemOf r i x = some ⟨x.nm, r.start i x.tm, oneG x.vl⟩ from by unfold itemOf; rw [hhas, hval]; rfl)
          have HNV := Lib.hid (show viewL r i (l.take (j + 1)) = addR 1 (viewL r i (l.take j)) ⟨x.nm, r.start i x.tm, oneG x.vl⟩ from by
            unfold viewL; rw [HT.out, HIT.out]; exact addL_snoc _ _ _ _)
          have HN3 := Lib.hid (show (recsOf r i (l.take (j + 1))).length = (recsOf r i (l.take j)).length + 1 from by rw [HT.out, HIT.out]; simp)
          have HGood := Lib.hid (HIR.out _ HIT.out)
          rw [hval] at HV
          have hba := (Below.refl w2.heap.size w2).alloc (Nat.le_refl _) (.cells #[.string x.nm] 9)
          have XB3 := XB2.below hba
          have bx3 := bx2.below hba
          have G3 := G2.below hba
          have hbr3 := hbr2.trans (hba.mono hbr2.size)
          have z0 := XB3.at_ 0 rfl
          have z1 := XB3.at_ 1 rfl
          have z2 := XB3.at_ 2 rfl
          go_wp2_with fail
          refine HV.out.mono ?_
          rintro e w3 ⟨rfl, rfl⟩
          generalize w2.alloc (.cells #[.string x.nm] 9) = w3 at *
          clear y0 y1 y2 XB2 bx2 G2 hbr2 hba HV
          go_upto_region 8 with fail
          have hzb := start_bd r i x.tm hok.tm.2
          obtain ⟨z, hz⟩ : ∃ z, r.start i x.tm = z := ⟨_, rfl⟩
          rw [hz] at hzb HNV HGood ⊢
          have HZ := Lib.hid hz
          clear hz
          have hzw : (Lit.int .i64 z).wf = true := wf_i64' (by omega)
          have KB := Bx.new w3 83 #[.string x.nm, .int .i64 z]
          have hbk := (Below.refl w3.heap.size w3).alloc (Nat.le_refl _) (.cells #[.string x.nm, .int .i64 z] 83)
          have XB8 := XB3.below hbk
          have bx8 := bx3.below hbk
          have G8 := G3.below hbk
          have hbr8 := hbr3.trans (hbk.mono hbr3.size)
          clear z0 z1 z2 XB3 bx3 G3 hbr3 hbk
          generalize hW8 : w3.alloc (.cells #[.string x.nm, .int .i64 z] 83) = w8 at *
          clear hW8
          have k0 := KB.at_ 0 rfl
          have k1 := KB.at_ 1 rfl
          have s2 := XB8.at_ 2 rfl
          have hbl := (Below.refl w8.heap.size w8).alloc (Nat.le_refl _) (.cells #[.int .i64 x.vl] 3)
          have VB := Bx.new w8 3 #[.int .i64 x.vl]
          have hs9 : (w8.alloc (.cells #[.int .i64 x.vl] 3)).heap.size = w8.heap.size + 1 := by simp
          have HS9 := Lib.hid hs9
          have bx9 := bx8.below hbl
          have hbr9 := hbr8.trans (hbl.mono hbr8.size)
          obtain ⟨D, hown, hrep⟩ := (G8.below hbl).own
          have hGlt := G8.lt
          obtain ⟨v, zs, st, w1, hent, hat, hoi, hoi1, hzl, hg1, hsz1, hback⟩ := groups_entry hown place_klaw Tryz.underlying80 zero_ints (by unfold maxLen; omega) (key_mk hok.nm hzw)
          have HVS := Lib.hid (hrep.vals hok.nm hzw hat hoi)
          have HGS := Lib.hid (gsum_put hrep x.nm z x.vl)
          have HREP := Lib.hid (hrep.put (v := x.vl) hok.nm hzw (wf_i64' hok.vl))
          have HBK := Lib.hid hback
          have HSZ1 := Lib.hid hsz1
          have VB1 := VB.grown hg1 (by simp; omega)
          have SL : Sl w1 (some ⟨w8.heap.size, 0, none⟩) [.int .i64 x.vl] := ⟨fun _ => ⟨_, _, rfl, VB1.lt, fun q u hu => by
            rw [Nat.zero_add, VB1.cell]
            simpa using hu⟩⟩
          have bx1 := bx9.grown hg1 (by simp)
          have hbr1 := hbr9.grown hg1 hbr9.size (fun q hq => by cases hq; omega)
          have HOI := Lib.hid hoi1
          have hvl := hoi1.1.lt
          have HVL := Lib.hid hvl
          have HWF := Lib.hid (wf_i64' hok.vl)
          have hb1s : w.heap.size + 1 + 1 ≤ w1.heap.size := by rw [HSZ1.out, HS9.out]; omega
          clear hs9 hback hsz1 hat hoi hoi1 hrep hown hg1 hbr9 bx9 hbl hbr8 bx8 G8 hvl
          go_wp2_with (first
            | (at_builtin
               refine wpList_append_sl _ rfl _ _ 25 rfl (w.heap.size + 1 + 1) 3 i0 _ 1 8 Tryz.underlying25 HI.out HI0.out HI1.out HI2.out rfl (by decide) v zs.length (zs.map (Value.int .i64)) rfl HOI.out.1 (some ⟨w8.heap.size, 0, none⟩) 1 1 [.int .i64 x.vl] rfl rfl SL (int_one .i64 [x.vl]) ?c4 ?c5 ?c6 ?_
               (unfold maxLen; omega)
               (omega)
               (exact hb1s)
               intro v' w4 hown4 hg4 hat4
               have hoi4 := HOI.out.appended hown4 HWF.out
               obtain ⟨w5, hst5, hgr5, hg5⟩ := HBK.out w4 v' (zs ++ [x.vl]) hg4 hoi4 (by simp; omega) (hat4.imp id fun h => ⟨_, h, by rw [HSZ1.out]; exact Nat.le_refl _⟩)))
          have hrd : rowDatum (H := Unit) .i64 v' (zs ++ [x.vl]) = .slice (lits .i64 (zs ++ [x.vl])) [] := hoi4.datum_pos (by simp)
          rw [hrd, HVS.out] at hgr5
          have hbr4 := hbr1.grown hg4 hbr1.size (fun q hq => by have := (HVL.out q hq).1; omega)
          have hbr5 := hbr4.grown hg5 hbr4.size (fun q hq => by cases hq; omega)
          have bx4 := bx1.grown hg4 (fun e => by have := (HVL.out _ e.symm).1; omega)
          have bx5 := bx4.grown hg5 (by simp)
          go_roundw
          case rel => exact ⟨j + 1, putG gs x.nm z x.vl, by omega, by go_num, ⟨_, hgr5, HREP.out⟩, by rw [HNV.out]; exact Lib.hid (putG_perm HP.out HTab.out HGood.out.2.1 HGood.out.1), Lib.hid (by rw [HGS.out, HN3.out, HSUM.out]), bx5, hbr5⟩
          case measure => simp [intOf]; omega
    · have hje : j = k := by omega
      subst hje
      rw [List.take_of_length_le (by rw [HL.out]; exact Nat.le_refl _)] at HP HSUM
      have hln : gs.length ≤ j := by
        have h1 := HP.out.length_eq
        rw [List.length_map] at h1
        have h2 : (viewL r i l).length ≤ (recsOf r i l).length := fill_len _
        have h3 := recs_len r i l
        rw [HL.out] at h3
        omega
      go_wp2
      go_ret
      exact ⟨w.heap.size + 1, gs, rfl, by omega, G, HP.out, hln, HSUM.out, hbr⟩
end Go.Proofs.YtcglbbabfkbcbadGreat
