/-
  Add.
-/
import Derived.Test.YtdlmipoeeiaapaaTableRecs
import Derived.Test.YtdlmipoeeiaapaaTableRight
namespace Go.Proofs.Ytdlmipoeeiaapaa
open Go.RowKit Go.Maps

theorem addR_yes {ev : Int} {l : List Rc} {r : Rc} (h : rightR ev r = true) : addR ev l r = putR ⟨r.nm, r.st, mergeL [agAt l r.nm r.st, r.ag]⟩ l := by unfold addR; rw [if_pos h]
theorem addR_no {ev : Int} {l : List Rc} {r : Rc} (h : rightR ev r = false) : addR ev l r = l := by unfold addR; rw [if_neg (by rw [h]; simp)]
theorem grown_chain {a b c : World} {row : Option Nat} (h : a.grownBy b row) (k : b.grownBy c none) : a.grownBy c row := h.andThen k (fun j hj => by cases hj)
theorem two_ags {w : World} {a b : Ag} (ha : a.Ok) (hb : b.Ok) (T : TypeId) (g : Nat) (hg : g = w.heap.size) : Ags (w.alloc (.cells #[.int .i64 a.c, .int .i64 a.hi, .int .u64 a.lo, .int .i64 a.mn, .int .i64 a.mx, .int .i64 b.c, .int .i64 b.hi, .int .u64 b.lo, .int .i64 b.mn, .int .i64 b.mx] T)) (some ⟨g, 0, none⟩) 2 [a, b] :=
  ⟨Sl.new w T g _ _ hg (by simp [Ag.cells]), rfl, by decide, fun x hx => by
    rcases List.mem_cons.1 hx with rfl | hx
    · exact ha
    · rw [List.mem_singleton.1 hx]; exact hb⟩
set_option maxRecDepth 100000 in
set_option maxHeartbeats 4000000 in
theorem addT_any {g mm : Nat} {ev : Int} {l rs : List Rc} {A : Option Addr} {n c : Nat} (w : World) (h : TableAt w g mm ev l) (hr : Rcs w A n rs) (hev : -9223372036854775808 ≤ ev ∧ ev ≤ 9223372036854775807) (hfew : l.length + n < 1000000) :
    Calls Try.prog 12 #[.pointer (some ⟨g, 0, none⟩), .slice A n c] w fun e w' => e = .returned (.int .i64 (addN ev rs)) ∧ TableAt w' g mm ev (addL ev l rs) ∧ w.grownBy w' (some mm) := by
  have HL := Lib.hid hr.len
  have HE := Lib.hid hev
  clear hev
  go_enter Try.func12, Try.ntmps12
  go_wp2_with (go_at_call 30; refine (noneT_any h).mono ?_; rintro e w1 ⟨rfl, rfl⟩)
  go_loopw [5, 13] (fun v i wr => ∃ j : Nat, j ≤ n ∧ i = .int .i64 j ∧ v = .int .i64 (addN ev (rs.take j)) ∧ TableAt wr g mm ev (addL ev l (rs.take j)) ∧ w.grownBy wr (some mm)) (fun _ i _ => n - (intOf i).toNat)
  case atStart => exact ⟨0, Nat.zero_le _, rfl, rfl, h, World.grownBy.refl _ _⟩
  case round =>
    obtain ⟨j, hj, rfl, rfl, T, hgr⟩ := hrel
    have hgl := T.lt
    have hml := T.map.lt
    by_cases hlt : j < n
    · have K : j < rs.length := by rw [HL.out]; exact hlt
      obtain ⟨b, off, rfl, hb, R⟩ := (hr.keep h.map hgr).get K
      have HNM := Lib.hid (hr.nm _ (List.getElem_mem K))
      have HST := Lib.hid (hr.st _ (List.getElem_mem K))
      have HOK := Lib.hid (hr.ok _ (List.getElem_mem K))
      have HN := Lib.hid (show addL ev l (rs.take (j + 1)) = addR ev (addL ev l (rs.take j)) rs[j] from by rw [List.take_succ_eq_append_getElem K, addL_snoc])
      have HM := Lib.hid (show addN ev (rs.take (j + 1)) = addN ev (rs.take j) + (if rightR ev rs[j] = true then 1 else 0) from by rw [List.take_succ_eq_append_getElem K, addN_snoc])
      have HLEN := Lib.hid (show (addL ev l (rs.take j)).length < 1000000 from by
        have := addL_len (ev := ev) (l := l) (rs := rs.take j)
        rw [List.length_take] at this; omega)
      have hq : addN ev (rs.take j) ≤ 1000000 := by
        have : addN ev (rs.take j) ≤ (rs.take j).length := List.countP_le_length
        rw [List.length_take] at this; omega
      generalize rs[j]'K = x at *
      generalize addL ev l (rs.take j) = k at *
      generalize addN ev (rs.take j) = q at *
      obtain ⟨r0, r1, r2, r3, r4, r5, r6⟩ := R
      have g1 : wr.grownBy (wr.alloc (.cells #[.string x.nm, .int .i64 x.st, .int .i64 x.ag.c, .int .i64 x.ag.hi, .int .u64 x.ag.lo, .int .i64 x.ag.mn, .int .i64 x.ag.mx] 34)) none := World.grownBy_alloc _ _ _
      have X1 := RcCells.new wr x
      have T1 := T.grown g1 (by simp) (by simp)
      have hgr1 := grown_chain hgr g1
      cases hx : rightR ev x
      · have HX := Lib.hid hx
        clear hx
        go_wp2_with (go_at_call 31; refine (right_any x _ T1.cells.1 HNM.out (bd_i64 HST.out) HE.out).mono ?_; rw [HX.out]; rintro e w2 ⟨rfl, hb2⟩)
        go_roundw
        case rel => exact ⟨j + 1, by omega, by go_num, by rw [HM.out, HX.out]; simp, by rw [HN.out, addR_no HX.out]; exact T1.below hb2, grown_chain hgr1 (grown_of_below hb2 none)⟩
        case measure => simp [intOf]; omega
      · have HX := Lib.hid hx
        clear hx
        have HF := Lib.hid (T1.map.fit x.nm x.st)
        have hsz := World.grownBy.size g1
        have hwr : wr.heap.size < (wr.alloc (.cells #[.string x.nm, .int .i64 x.st, .int .i64 x.ag.c, .int .i64 x.ag.hi, .int .u64 x.ag.lo, .int .i64 x.ag.mn, .int .i64 x.ag.mx] 34)).heap.size := by simp
        clear hsz
        go_wp2_with (first
          | (go_at_call 31; refine (right_any x _ T1.cells.1 HNM.out (bd_i64 HST.out) HE.out).mono ?_; rw [HX.out]; rintro e w2 ⟨rfl, hb2⟩
             have X2 := X1.keep (grown_of_below hb2 none) (by simp)
             have x0 := X2.c0
             have x1 := X2.c1
             have T2 := T1.below hb2
             have hgr2 := grown_chain hgr1 (grown_of_below hb2 none)
             have hw2 : wr.heap.size < w2.heap.size := Nat.lt_of_lt_of_le hwr hb2.size
             clear X1 T1 hgr1 hb2 r0 r1 r2 r3 r4 r5 r6))
        clear x0 x1 hwr
        have hb3 : Below w2.heap.size w2 ((w2.alloc (.cells #[.string x.nm, .int .i64 x.st] 60)).drew) := ((Below.refl _ _).alloc (Nat.le_refl _) _).drew
        have X3 := X2.keep (grown_of_below hb3 none) (by simp)
        have T3 := T2.below hb3
        have hgr3 := grown_chain hgr2 (grown_of_below hb3 none)
        have p0 : ((w2.alloc (.cells #[.string x.nm, .int .i64 x.st] 60)).drew).cell? ⟨w2.heap.size, 0, none⟩ = some (.string x.nm) := cell_of_row (w2.alloc (.cells #[.string x.nm, .int .i64 x.st] 60)) _ 0 _ _ _ (heap_alloc_new w2 _)
        have p1 : ((w2.alloc (.cells #[.string x.nm, .int .i64 x.st] 60)).drew).cell? ⟨w2.heap.size, 1, none⟩ = some (.int .i64 x.st) := cell_of_row (w2.alloc (.cells #[.string x.nm, .int .i64 x.st] 60)) _ 1 _ _ _ (heap_alloc_new w2 _)
        have x2 := X3.c2
        have x3 := X3.c3
        have x4 := X3.c4
        have x5 := X3.c5
        have x6 := X3.c6
        have t1 := T3.cells.2
        have hlk := T3.map.look HNM.out HST.out
        obtain ⟨z, hz⟩ : ∃ z, agAt k x.nm x.st = z := ⟨_, rfl⟩
        rw [hz] at hlk
        have HZ := Lib.hid hz
        have hFZ := HF.out
        rw [hz] at hFZ
        have HFZ := Lib.hid hFZ
        clear hz hFZ HF
        obtain ⟨y, hy⟩ : ∃ y, mergeL [z, x.ag] = y := ⟨_, rfl⟩
        have HY := Lib.hid hy
        have hXOK : Rc.Ok ⟨x.nm, x.st, y⟩ := ⟨HNM.out, HST.out, by
          rw [← hy]
          exact Ag.Fit.merge (fun a ha => by
            rcases List.mem_cons.1 ha with rfl | ha
            · exact HFZ.out.ok
            · rw [List.mem_singleton.1 ha]; exact HOK.out)⟩
        have HXO := Lib.hid hXOK
        clear hy
        have hgm : g ≠ mm := T.ne
        have hm2 := T2.map.lt
        have hb4 : Below w2.heap.size w2 (((w2.alloc (.cells #[.string x.nm, .int .i64 x.st] 60)).alloc (.cells #[.int .i64 z.c, .int .i64 z.hi, .int .u64 z.lo, .int .i64 z.mn, .int .i64 z.mx, .int .i64 x.ag.c, .int .i64 x.ag.hi, .int .u64 x.ag.lo, .int .i64 x.ag.mn, .int .i64 x.ag.mx] 32)).drew) := (((Below.refl _ _).alloc (Nat.le_refl _) _).alloc (by simp) _).drew
        have T4 := T2.below hb4
        have hgr4 := grown_chain hgr2 (grown_of_below hb4 none)
        have HMC := merge_any (some ⟨w2.heap.size + 1, 0, none⟩) 2 2 [z, x.ag] _ ((two_ags (w := w2.alloc (.cells #[.string x.nm, .int .i64 x.st] 60)) HFZ.out.ok HOK.out 32 (w2.heap.size + 1) (by simp)).below ((Below.refl _ _).drew))
        rw [HY.out] at HMC
        clear hXOK X2 T hb3 hb4 hgr3
        go_region_held3 (fun w' => w'.cell? ⟨g, 1, none⟩ = some (.map (some mm)) ∧ w'.cell? ⟨w2.heap.size, 0, none⟩ = some (.string x.nm) ∧ w'.cell? ⟨w2.heap.size, 1, none⟩ = some (.int .i64 x.st) ∧ w'.cell? ⟨wr.heap.size, 0 + 2, none⟩ = some (.int .i64 x.ag.c) ∧ w'.cell? ⟨wr.heap.size, 0 + 3, none⟩ = some (.int .i64 x.ag.hi) ∧ w'.cell? ⟨wr.heap.size, 0 + 4, none⟩ = some (.int .u64 x.ag.lo) ∧ w'.cell? ⟨wr.heap.size, 0 + 5, none⟩ = some (.int .i64 x.ag.mn) ∧ w'.cell? ⟨wr.heap.size, 0 + 6, none⟩ = some (.int .i64 x.ag.mx))
          (first | (go_split_ands; refine ⟨?_, ?_, ?_, ?_, ?_, ?_, ?_, ?_⟩ <;> first | assumption | (refine World.grownBy.cell hg6 ?_ (by simp; omega); assumption) | (refine World.grownBy.cell hg5 ?_ (by simp); assumption) | (refine cell_keep ?_; assumption)))
          (first
            | (go_at_call 32; refine HMC.mono ?_; rintro e w5 ⟨rfl, hb5⟩
               have hg5 := grown_of_below hb5 none
               have T5 := T4.grown hg5 (by simp) (by simp)
               have hgr5 := grown_chain hgr4 hg5
               obtain ⟨w6, hup0, M6, hg6⟩ := T5.map.store HXO.out HLEN.out
               have hup : (Instr.mapUpdate 53 (.map (some mm)) (placeV x.nm x.st) y.val).run Try.prog w5 = .ok () w6 := hup0
               clear hup0))
        go_wp2
        go_roundw
        case rel => exact ⟨j + 1, by omega, by go_num, by rw [HM.out, HX.out]; simp, by rw [HN.out, addR_yes HX.out, HZ.out, HY.out]; exact T5.turned hg6 M6, hgr5.andThen hg6 (fun j hj => by cases hj; exact Or.inr rfl)⟩
        case measure => simp [intOf]; omega
    · have e1 := Lib.hid (show rs.take j = rs from List.take_of_length_le (by rw [HL.out]; omega))
      rw [e1.out] at T ⊢
      go_wp2
      go_ret
      exact ⟨rfl, T, hgr⟩
end Go.Proofs.Ytdlmipoeeiaapaa
