/-
  PoolTakes: its walk.
-/
import Derived.Test.YtjdbklhjikkehaaPoolLaws
import Derived.Test.YtjdbklhjikkehaaPoolUsed
import Derived.Laws.NewBlocks
namespace Go.Proofs.Ytjdbklhjikkehaa
open Go.RowKit Go.Maps

/-- What is handed out: each block is there, free, and handed out once. -/
structure Handed (nn : Nat) (us : List Int) (q : Int) (O : List Int × Int) : Prop where
  nodup : O.1.Nodup
  fresh : ∀ z ∈ O.1, 7 ≤ z ∧ z < 7 + nn ∧ z ∉ us
  len : O.1.length ≤ 60
  err : (O.2 = 0 ∧ q ≤ nn - us.length) ∨ (O.2 = 20 ∧ ¬ q ≤ nn - us.length)
theorem handed (nn : Nat) (us : List Int) (q : Int) (hq : 0 ≤ q ∧ q ≤ 7) : Handed nn us q (takeOut 7 nn us q) := by
  unfold takeOut
  rw [if_neg (by omega)]
  by_cases h : (nn : Int) - us.length < q
  · rw [if_pos h]
    exact ⟨List.nodup_nil, by simp, by simp, .inr ⟨rfl, by omega⟩⟩
  · rw [if_neg h]
    refine ⟨(List.take_sublist _ _).nodup (rising_freeIn 7 us _).nodup, fun z hz => ?_, by simp; omega, .inl ⟨rfl, by omega⟩⟩
    have h3 := mem_freeIn.1 (List.mem_of_mem_take hz)
    refine ⟨h3.1, ?_, h3.2.2⟩
    have := h3.2.1
    omega
theorem info_bool : (Try.prog.info? 4).map (fun i => (i.zero, i.size, i.bytes)) = some (some (.bool false), 1, 1) := by kernel_rfl
theorem make_marks (nn : Nat) (h : nn ≤ 60) (W : World) : (Instr.makeSlice 26 (.int .i64 (nn : Int)) (.int .i64 (nn : Int))).run Try.prog W = .ok (.slice (some ⟨W.heap.size, 0, none⟩) nn nn) (W.alloc (.cells (marks 7 nn []) 4)) := by
  obtain ⟨i0, hi, hz0, hz1, hz2⟩ := info_parts info_bool
  rw [run_make W 26 4 i0 (.bool false) Try.underlying26 hi hz0 .i64 .i64 nn nn (by omega) (by omega) (by rw [hz2]; omega) (by omega)]
  have e : madeCells (Value.bool false).cells ((nn : Int).toNat * i0.size) = marks 7 nn [] := by
    rw [marks_nil, hz1]
    apply Array.ext'
    rw [show (Value.bool false).cells = #[.bool false] from rfl, toList_madeCells_one]
    simp
  rw [e]; rfl
/-- What stands while PoolTakes goes on: the pool, the marks, and nothing that was there has turned. -/
structure Going (w w' : World) (g m sb : Nat) (nn : Nat) (us S : List Int) : Prop where
  pool : PoolAt w' g m 7 nn us
  mark : w'.heap[sb]? = some (.cells (marks 7 nn S) 4 (0, 0))
  bel : Below w.heap.size w w'
  hm : w.heap.size ≤ m
  hsb : w.heap.size ≤ sb
theorem Going.ne {w w' : World} {g m sb nn : Nat} {us S : List Int} (h : Going w w' g m sb nn us S) : sb ≠ m := by
  intro e
  obtain ⟨es, c, h1, _⟩ := h.pool.set.own
  have := h.mark
  rw [e, h1] at this; cases this
theorem Going.ne2 {w w' : World} {g m sb nn : Nat} {us S : List Int} (h : Going w w' g m sb nn us S) : g ≠ sb := by
  intro e
  have := h.mark
  rw [← e, h.pool.blk] at this
  injection this with this
  injection this with _ this
  exact absurd this (by decide)
theorem Going.below {w w' w2 : World} {g m sb nn : Nat} {us S : List Int} (h : Going w w' g m sb nn us S) (hb : Below w'.heap.size w' w2) : Going w w2 g m sb nn us S :=
  ⟨h.pool.below hb, (hb.block sb (lt_of_block h.mark)).trans h.mark, h.bel.trans (hb.mono h.bel.size), h.hm, h.hsb⟩
theorem Going.turned {w w' w2 : World} {g m sb nn : Nat} {us us2 S : List Int} (h : Going w w' g m sb nn us S) (hp : PoolAt w2 g m 7 nn us2) (hg : w'.grownBy w2 (some m)) : Going w w2 g m sb nn us2 S :=
  ⟨hp, (hg.block sb (lt_of_block h.mark) (fun e => h.ne (by injection e))).trans h.mark, h.bel.grown hg h.bel.size (fun k hk => by cases hk; exact h.hm), h.hm, h.hsb⟩
theorem Going.marked {w w' : World} {g m sb nn : Nat} {us S : List Int} {z : Int} (h : Going w w' g m sb nn us S) (hz : 7 ≤ z) : Going w (w'.setCell ⟨sb, (z - 7).toNat, none⟩ (.bool true)) g m sb nn us (ins z S) :=
  ⟨⟨(heap_setCell_other w' ⟨sb, (z - 7).toNat, none⟩ g _ (fun e => h.ne2 e)).trans h.pool.blk, by
      obtain ⟨es, c, h1, r⟩ := h.pool.set.own
      exact ⟨⟨es, c, (heap_setCell_other w' ⟨sb, (z - 7).toNat, none⟩ m _ (fun e => h.ne e.symm)).trans h1, r⟩, h.pool.set.rising⟩, h.pool.rng, h.pool.ins⟩,
    by rw [← marks_set _ _ _ _ hz]; exact heap_setCell_same w' sb _ _ _ _ h.mark, h.bel.setCell h.hsb _, h.hm, h.hsb⟩
theorem Going.cell {w w' : World} {g m sb nn : Nat} {us S : List Int} {z : Int} (h : Going w w' g m sb nn us S) (h1 : 7 ≤ z) (h2 : z < 7 + nn) : w'.cell? ⟨sb, (z - 7).toNat, none⟩ = some (.bool (decide (z ∈ S))) := by
  rw [cell_of_row w' sb _ _ _ _ h.mark, marks_get _ _ _ _ (by omega)]
  have : (7 : Int) + ((z - 7).toNat : Int) = z := by omega
  rw [this]
theorem Going.free {w w' : World} {g m sb nn : Nat} {us S : List Int} (h : Going w w' g m sb nn us S) (j : Nat) : w'.frozen? ⟨sb, j, none⟩ = false := frozen_of_row w' sb j _ _ h.mark
theorem Going.ints {w w' : World} {g m sb nn : Nat} {us S zs : List Int} {A : Option Addr} {p : Nat} (h : Going w w' g m sb nn us S) (hi : Ints w' .i64 A p zs) (j : Nat) (u : Value) : Ints (w'.setCell ⟨sb, j, none⟩ u) .i64 A p zs :=
  ⟨⟨fun hne => by
    obtain ⟨b, off, e, hlt, hc⟩ := hi.sl.at_ hne
    have hb : b ≠ sb := by
      rintro rfl
      obtain ⟨x, r, hx⟩ := List.exists_cons_of_ne_nil hne
      have h1 := hc 0 x (by rw [hx]; rfl)
      rw [cell_of_row w' b _ _ _ _ h.mark] at h1
      have h2 : ∃ z : Int, x = .int .i64 z := by
        have : x ∈ zs.map (Value.int .i64) := by rw [hx]; simp
        obtain ⟨z, _, rfl⟩ := List.mem_map.1 this
        exact ⟨z, rfl⟩
      obtain ⟨z, rfl⟩ := h2
      have hlt' : off + 0 < nn := by
        have := (Array.getElem?_eq_some_iff.1 h1).1
        rwa [marks_size] at this
      rw [marks_get _ _ _ _ hlt'] at h1
      cases h1
    exact ⟨b, off, e, by simpa [World.setCell] using hlt, fun i v hv => (World.cell?_setCell_other w' ⟨sb, j, none⟩ ⟨b, off + i, none⟩ u (fun e => hb (by injection e with e; exact e.symm))).trans (hc i v hv)⟩⟩, hi.len, hi.n_le, hi.wf⟩
theorem not_in_take {zs us : List Int} {t : Nat} (h : t < zs.length) (hn : zs.Nodup) (hf : zs[t] ∉ us) : decide (zs[t] ∈ insAll us (zs.take t)) = false := by
  rw [decide_eq_false_iff_not, mem_insAll]
  rintro (h1 | h1)
  · exact hf h1
  · obtain ⟨i, hi, e⟩ := List.getElem_of_mem h1
    have hi' : i < t := by have := hi; rw [List.length_take] at this; omega
    rw [List.getElem_take] at e
    exact (List.pairwise_iff_getElem.1 hn) i t (by omega) h hi' e
set_option maxRecDepth 100000 in
set_option maxHeartbeats 8000000 in
theorem walk_poolTakes (n : Int) (hn : (Lit.int .i64 n).wf = true) (A : Option Addr) (len cap : Nat) (ks : List Int) (w : World) (hk : Ints w .i64 A len ks) :
    Calls Try.prog 3 #[.int .i64 n, .slice A len cap] w fun e w' => e = .returned (.bool true) ∧ Below w.heap.size w w' := by
  have hl := hk.n_le
  unfold maxLen at hl
  by_cases h1 : n < 0
  · go_enter Try.func3, Try.ntmps3
    go_wp2_with fail
    refine (alive_any _).mono ?_
    rintro e w1 ⟨rfl, hb⟩
    go_wp2_with fail
    go_ret
    exact ⟨rfl, hb⟩
  by_cases h2 : 60 < n
  · go_enter Try.func3, Try.ntmps3
    go_wp2_with fail
    refine (alive_any _).mono ?_
    rintro e w1 ⟨rfl, hb⟩
    go_wp2_with fail
    go_ret
    exact ⟨rfl, hb⟩
  by_cases h3 : 30 < len
  · go_enter Try.func3, Try.ntmps3
    go_wp2_with fail
    refine (alive_any _).mono ?_
    rintro e w1 ⟨rfl, hb⟩
    go_wp2_with fail
    go_ret
    exact ⟨rfl, hb⟩
  obtain ⟨nn, hnn⟩ : ∃ nn : Nat, n = nn := ⟨n.toNat, by omega⟩
  subst hnn
  have hn60 : nn ≤ 60 := by omega
  clear hn
  have HL := Lib.hid hk.len
  have hmk := make_marks nn hn60
  go_enter Try.func3, Try.ntmps3
  go_wp2_with fail
  refine (new_any _ _ _ (by omega)).mono ?_
  rintro e w1 ⟨g, m, f, k, rfl, hp1, hb1, hg, hm, hf, hk'⟩
  have hf' : f = 7 := by omega
  have hk'' : k = nn := by rw [hk', if_neg (by omega)]; omega
  subst hf' hk''
  clear hf hk'
  go_wp2_with fail
  have G0 : Going w (w1.alloc (.cells (marks 7 nn []) 4)) g m w1.heap.size nn [] [] :=
    ⟨hp1.below ((Below.refl _ _).alloc (Nat.le_refl _) _), heap_alloc_new _ _, hb1.alloc hb1.size _, hm, hb1.size⟩
  obtain ⟨sb, hsb⟩ : ∃ sb, sb = w1.heap.size := ⟨_, rfl⟩
  rw [← hsb] at G0
  rw [← hsb]
  clear hsb
  go_loopw [7, 8] (fun q i wr => ∃ (j : Nat) (us : List Int), j ≤ len ∧ i = .int .i64 j ∧ q = .int .i64 ((nn : Int) - us.length) ∧ Going w wr g m sb nn us us) (fun _ i _ => len - (intOf i).toNat)
  case atStart => exact ⟨0, [], Nat.zero_le _, rfl, by simp, G0⟩
  case round =>
    obtain ⟨j, us, hj, rfl, rfl, G⟩ := hrel
    have hus := G.pool.size_le
    by_cases hlt : j < len
    · have K : j < ks.length := by rw [HL.out]; exact hlt
      obtain ⟨b, off, rfl, hb, hc⟩ := (hk.below G.bel).get K
      obtain ⟨a1, a2⟩ := and7 ks[j]
      go_wp2_with fail
      generalize bits BinOp.and IntKind.i64 ks[j] 7 = q at *
      refine (take_any g m 7 nn us q wr G.pool (by omega)).mono ?_
      rintro e w2 ⟨v, rfl, hown, hp2, hg2⟩
      have HD := handed nn us q ⟨a1, a2⟩
      generalize takeOut 7 (nn : Int) us q = O at *
      have G2 := G.turned hp2 hg2
      obtain ⟨A2, c2, rfl, hi2⟩ := own_ints' hown (fun z hz => by have := HD.fresh z hz; exact wf_small (by omega)) (by have := HD.len; unfold maxLen; omega)
      have HLen := Lib.hid (length_insAll HD.nodup (fun z hz => (HD.fresh z hz).2.2))
      have hlen60 := HD.len
      have hus2 := hp2.size_le
      have Hfresh := Lib.hid HD.fresh
      have Hnodup := Lib.hid HD.nodup
      have herr := HD.err
      clear hown hg2 HD
      obtain ⟨p, hp⟩ : ∃ p, p = O.1.length := ⟨_, rfl⟩
      rw [← hp] at hi2 hlen60
      rw [← hp]
      have HP := Lib.hid hp
      clear hp
      rcases herr with ⟨e1, e2⟩ | ⟨e1, e2⟩
      all_goals
        rw [e1]
        clear e1
        go_wp2_with fail
        obtain ⟨wo, hwo⟩ : ∃ wo, wo = w2 := ⟨_, rfl⟩
        go_loopw [12] (fun i wr => ∃ t : Nat, t ≤ p ∧ i = .int .i64 t ∧ Going w wr g m sb nn (insAll us O.1) (insAll us (O.1.take t)) ∧ Ints wr .i64 A2 p O.1) (fun i _ => p - (intOf i).toNat)
        case atStart => exact ⟨0, Nat.zero_le _, rfl, G2, hi2⟩
        case round =>
          clear G2 hi2
          obtain ⟨t, ht, rfl, G2, hi2⟩ := hrel
          by_cases htp : t < p
          · have K2 : t < O.1.length := by rw [← HP.out]; exact htp
            obtain ⟨b2, off2, rfl, hb2, hc2⟩ := hi2.get K2
            obtain ⟨z1, z2, z3⟩ := Hfresh.out _ (List.getElem_mem K2)
            have HM := Lib.hid (not_in_take K2 Hnodup.out z3)
            have HIN := Lib.hid (decide_eq_true (show O.1[t] ∈ insAll us O.1 from mem_insAll.2 (.inr (List.getElem_mem K2))))
            have HNX := Lib.hid (show insAll us (O.1.take (t + 1)) = ins O.1[t] (insAll us (O.1.take t)) from by rw [List.take_succ_eq_append_getElem K2, insAll_snoc])
            clear z3
            generalize O.1[t]'K2 = z at *
            have hm1 := G2.cell z1 z2
            rw [HM.out] at hm1
            have hz0 : (0 : Int) ≤ z - 7 := by omega
            have hz1 : z - 7 < (nn : Int) := by omega
            go_wp2_with fail
            refine (has_any g m 7 nn _ z wr G2.pool (wf_small (by omega))).mono ?_
            rintro e w3 ⟨rfl, hb3⟩
            rw [HIN.out]
            have G3 := G2.below hb3
            have hi3 := hi2.below hb3
            have d1 := G3.cell z1 z2
            rw [HM.out] at d1
            have d2 := G3.free (z - 7).toNat
            have hc3 := (hb3.cell (p := ⟨b2, off2 + t, none⟩) hb2).trans hc2
            go_wp2
            go_roundw
            case rel => exact ⟨t + 1, by omega, by go_num, by rw [HNX.out]; exact G3.marked z1, G3.ints hi3 _ _⟩
            case measure => simp [intOf]; omega
          · have hd : decide ((t : Int) < (p : Int)) = false := by simp; omega
            have htp' : t = p := by omega
            have HT := Lib.hid (show O.1.take t = O.1 from List.take_of_length_le (by rw [← HP.out]; omega))
            rw [HT.out] at G2
            have hus' : (us.length : Int) + p ≤ nn := by have := HLen.out; rw [← HP.out] at this; omega
            clear htp'
            go_wp2_with fail
            refine (free_any g m 7 nn _ wr G2.pool).mono ?_
            rintro e w3 ⟨rfl, hb3⟩
            have G3 := G2.below hb3
            have HC := Lib.hid (show (nn : Int) - ((insAll us O.1).length : Int) = (nn : Int) - us.length - p from by have := HLen.out; rw [← HP.out] at this; omega)
            rw [HC.out]
            go_wp2_with fail
            refine (used_any g m 7 nn _ w3 G3.pool).mono ?_
            rintro e w4 ⟨v4, rfl, hown4, hb4⟩
            have G4 := G3.below hb4
            obtain ⟨A4, c4, rfl, hi4⟩ := own_ints' hown4 (fun z hz => by have := G4.pool.ins z hz; exact wf_small (by omega)) (by have := G4.pool.size_le; unfold maxLen; omega)
            clear hown4 hi4
            have HC2 := Lib.hid (show (insAll us O.1).length = us.length + p from by have := HLen.out; rw [← HP.out] at this; exact this)
            rw [HC2.out]
            go_wp2
            go_roundw
            case rel => exact ⟨j + 1, insAll us O.1, by omega, by go_num, by rw [HC.out], G4⟩
            case measure => simp [intOf]; omega
    · have hd : decide ((j : Int) < (len : Int)) = false := by simp; omega
      go_wp2_with fail
      refine (alive_any _).mono ?_
      rintro e w2 ⟨rfl, hb2⟩
      have G2 := G.below hb2
      go_wp2_with fail
      refine (used_any g m 7 nn _ w2 G2.pool).mono ?_
      rintro e w4 ⟨v4, rfl, hown4, hb4⟩
      have G4 := G2.below hb4
      obtain ⟨A4, c4, rfl, hi4⟩ := own_ints' hown4 (fun z hz => by have := G4.pool.ins z hz; exact wf_small (by omega)) (by unfold maxLen; omega)
      go_wp2_with fail
      refine (give_any g m 7 nn us A4 us.length c4 us w4 G4.pool hi4).mono ?_
      rintro e w5 ⟨rfl, hp5, hg5⟩
      have HG := Lib.hid (show (giveAll us us).1 = [] from by rw [giveAll_self G4.pool.set.rising])
      have HG2 := Lib.hid (show (giveAll us us).2 = (us.length : Int) from by rw [giveAll_self G4.pool.set.rising])
      rw [HG.out] at hp5
      rw [HG2.out]
      have G5 := G4.turned hp5 hg5
      have hq : ((us.length : Int) == (nn : Int) - ((nn : Int) - us.length)) = true := by simp; omega
      clear hown4 hi4 hg5 hp5 G4 G2 G HG HG2
      generalize us.length = L at *
      go_wp2_with fail
      refine (free_any g m 7 nn _ w5 G5.pool).mono ?_
      rintro e w6 ⟨rfl, hb6⟩
      go_wp2_with fail
      go_ret
      exact ⟨rfl, (G5.below hb6).bel⟩
end Go.Proofs.Ytjdbklhjikkehaa
