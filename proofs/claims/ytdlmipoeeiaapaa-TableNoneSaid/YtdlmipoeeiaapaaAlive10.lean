/-
  The first call of the statements of chapter 10: it answers true.
-/
import Derived.Test.YtdlmipoeeiaapaaTableNeed
import Derived.Test.YtdlmipoeeiaapaaTableAdd
namespace Go.Proofs.Ytdlmipoeeiaapaa
open Go.RowKit Go.Maps

theorem int_cell (w : World) (x : Int) (h : -1000 ≤ x ∧ x ≤ 1000) : Ints (w.alloc (.cells #[.int .i64 x] 3)) .i64 (some ⟨w.heap.size, 0, none⟩) 1 [x] :=
  Ints.new w _ .i64 _ 1 [x] _ rfl rfl rfl (by decide) (fun z hz => by rw [List.mem_singleton.1 hz]; exact wf_i64 (by omega))
theorem Rcs.new (w : World) (T : TypeId) (l : List Rc) (cs : Array Value) (hc : cs.toList = l.flatMap Rc.cells) (hn : l.length ≤ maxLen) (hok : ∀ r ∈ l, r.nm.size ≤ maxLen ∧ (Lit.int .i64 r.st).wf = true ∧ r.ag.Ok) : Rcs (w.alloc (.cells cs T)) (some ⟨w.heap.size, 0, none⟩) l.length l :=
  ⟨Sl.new w T _ _ cs rfl hc, rfl, hn, fun r hr => (hok r hr).1, fun r hr => (hok r hr).2.1, fun r hr => (hok r hr).2.2⟩
abbrev r20 (a : Ag) : Rc := ⟨⟨#[97]⟩, 20, a⟩
theorem add3 : addL 10 [] [r20 ⟨1, 0, 1, 1, 1⟩, ⟨⟨#[97]⟩, 21, ⟨1, 0, 1, 1, 1⟩⟩, r20 ⟨1, 0, 3, 3, 3⟩] = [r20 ⟨2, 0, 4, 1, 3⟩] := by
  have e1 : rightR 10 (r20 ⟨1, 0, 1, 1, 1⟩) = true := by decide +kernel
  have e2 : ¬ rightR 10 ⟨⟨#[97]⟩, 21, ⟨1, 0, 1, 1, 1⟩⟩ = true := by decide +kernel
  have e3 : rightR 10 (r20 ⟨1, 0, 3, 3, 3⟩) = true := by decide +kernel
  have m1 : mergeL [Ag.zero, ⟨1, 0, 1, 1, 1⟩] = ⟨1, 0, 1, 1, 1⟩ := by decide +kernel
  have m2 : mergeL [⟨1, 0, 1, 1, 1⟩, ⟨1, 0, 3, 3, 3⟩] = ⟨2, 0, 4, 1, 3⟩ := by decide +kernel
  unfold addL
  rw [List.foldl_cons, List.foldl_cons, List.foldl_cons, List.foldl_nil]
  have s1 : addR 10 [] (r20 ⟨1, 0, 1, 1, 1⟩) = [r20 ⟨1, 0, 1, 1, 1⟩] := by
    unfold addR
    rw [if_pos e1]
    show putR ⟨_, _, mergeL [Ag.zero, _]⟩ [] = _
    rw [m1]; rfl
  rw [s1]
  have s2 : ∀ l, addR 10 l ⟨⟨#[97]⟩, 21, ⟨1, 0, 1, 1, 1⟩⟩ = l := fun l => by unfold addR; rw [if_neg e2]
  rw [s2]
  unfold addR
  rw [if_pos e3]
  have f : agAt [r20 ⟨1, 0, 1, 1, 1⟩] ⟨#[97]⟩ 20 = ⟨1, 0, 1, 1, 1⟩ := by simp [agAt, findR]
  show putR ⟨_, _, mergeL [agAt [r20 ⟨1, 0, 1, 1, 1⟩] ⟨#[97]⟩ 20, _]⟩ _ = _
  rw [f, m2]
  unfold putR
  exact if_pos (Rc.same_iff.2 ⟨rfl, rfl⟩)
structure AlS (w0 w' : World) (b g mm : Nat) : Prop where
  tab : TableAt w' g mm 10 [r20 ⟨2, 0, 4, 1, 3⟩]
  box : AgBox w' b ⟨2, 0, 4, 1, 3⟩
  bel : Below w0.heap.size w0 w'
theorem AlS.below {w0 w w' : World} {b g mm : Nat} (h : AlS w0 w b g mm) (hb : Below w.heap.size w w') : AlS w0 w' b g mm := ⟨h.tab.below hb, h.box.below hb, h.bel.trans (hb.mono h.bel.size)⟩
theorem AlS.drew {w0 w : World} {b g mm : Nat} (h : AlS w0 w b g mm) : AlS w0 w.drew b g mm := h.below ((Below.refl _ _).drew)
theorem AlS.alloc {w0 w : World} {b g mm : Nat} (h : AlS w0 w b g mm) (o : Obj) : AlS w0 (w.alloc o) b g mm := h.below ((Below.refl _ _).alloc (Nat.le_refl _) o)
theorem AlS.full {w0 w' : World} {b g mm : Nat} (h : AlS w0 w' b g mm) : AlS w0 w' b g mm ∧ w'.cell? ⟨b, 0, none⟩ = some (.int .i64 2) ∧ w'.cell? ⟨b, 1, none⟩ = some (.int .i64 0) ∧ w'.cell? ⟨b, 2, none⟩ = some (.int .u64 4) ∧ w'.cell? ⟨b, 3, none⟩ = some (.int .i64 1) ∧ w'.cell? ⟨b, 4, none⟩ = some (.int .i64 3) := ⟨h, h.box.cells⟩
set_option maxRecDepth 100000 in
set_option maxHeartbeats 4000000 in
theorem alive_any (w : World) : Calls Try.prog 10 #[] w fun e w' => e = .returned (.bool true) ∧ Below w.heap.size w w' := by
  have o1 := Lib.hid (show ofL [1] = ⟨1, 0, 1, 1, 1⟩ from by decide +kernel)
  have o3 := Lib.hid (show ofL [3] = ⟨1, 0, 3, 3, 3⟩ from by decide +kernel)
  have o13 := Lib.hid (show ofL [1, 3] = ⟨2, 0, 4, 1, 3⟩ from by decide +kernel)
  have ha := Lib.hid add3
  have hn := Lib.hid (show addN 10 [r20 ⟨1, 0, 1, 1, 1⟩, ⟨⟨#[97]⟩, 21, ⟨1, 0, 1, 1, 1⟩⟩, r20 ⟨1, 0, 3, 3, 3⟩] = 2 from by decide +kernel)
  have hf := Lib.hid (show agAt [r20 ⟨2, 0, 4, 1, 3⟩] ⟨#[97]⟩ 20 = ⟨2, 0, 4, 1, 3⟩ from by simp [agAt, findR])
  have hs := Lib.hid (show (findR [r20 ⟨2, 0, 4, 1, 3⟩] ⟨#[97]⟩ 20).isSome = true from by simp [findR])
  have hd := Lib.hid (show needR 1 [r20 ⟨2, 0, 4, 1, 3⟩] = 1 from by decide +kernel)
  go_enter Try.func10, Try.ntmps10
  go_wp2_with fail
  refine (newT_any 10 w).mono ?_
  rintro e w1 ⟨g, mm, rfl, T1, hb1, hg, hm⟩
  have hmax : max (10 : Int) 1 = 10 := by decide
  rw [hmax] at T1
  clear hmax
  go_wp2_with fail
  refine (of_any _ 1 1 [1] _ (int_cell _ 1 (by omega))).mono ?_
  rw [o1.out]
  rintro e w2 ⟨rfl, hb2⟩
  have T2 := (T1.below ((Below.refl _ _).alloc (Nat.le_refl _) _)).below hb2
  have hbw2 := (hb1.alloc hb1.size _).trans (hb2.mono (by have := hb1.size; simp; omega))
  clear T1 hb1 hb2
  go_wp2_with fail
  refine (of_any _ 1 1 [1] _ (int_cell _ 1 (by omega))).mono ?_
  rw [o1.out]
  rintro e w3 ⟨rfl, hb3⟩
  have T3 := (T2.below ((Below.refl _ _).alloc (Nat.le_refl _) _)).below hb3
  have hbw3 := (hbw2.alloc hbw2.size _).trans (hb3.mono (by have := hbw2.size; simp; omega))
  clear T2 hbw2 hb3
  go_wp2_with fail
  refine (of_any _ 1 1 [3] _ (int_cell _ 3 (by omega))).mono ?_
  rw [o3.out]
  rintro e w4 ⟨rfl, hb4⟩
  have T4 := (T3.below ((Below.refl _ _).alloc (Nat.le_refl _) _)).below hb4
  have hbw4 := (hbw3.alloc hbw3.size _).trans (hb4.mono (by have := hbw3.size; simp; omega))
  clear T3 hbw3 hb4
  go_wp2_with fail
  have R4 := Rcs.new w4 34 [r20 ⟨1, 0, 1, 1, 1⟩, ⟨⟨#[97]⟩, 21, ⟨1, 0, 1, 1, 1⟩⟩, r20 ⟨1, 0, 3, 3, 3⟩] _ rfl (by decide) (fun r hr => by
    simp only [List.mem_cons, List.not_mem_nil, or_false] at hr
    rcases hr with rfl | rfl | rfl <;> exact ⟨by decide, by decide, ⟨by decide, by decide, by decide, by decide, by decide⟩⟩)
  have T4' := T4.below ((Below.refl _ _).alloc (Nat.le_refl _) (.cells ([r20 ⟨1, 0, 1, 1, 1⟩, ⟨⟨#[97]⟩, 21, ⟨1, 0, 1, 1, 1⟩⟩, r20 ⟨1, 0, 3, 3, 3⟩].flatMap Rc.cells).toArray 34))
  refine (addT_any _ T4' R4 (by decide) (by decide)).mono ?_
  rw [hn.out, ha.out]
  rintro e w5 ⟨rfl, T5, hg5⟩
  have hbw5 := (hbw4.alloc hbw4.size (.cells ([r20 ⟨1, 0, 1, 1, 1⟩, ⟨⟨#[97]⟩, 21, ⟨1, 0, 1, 1, 1⟩⟩, r20 ⟨1, 0, 3, 3, 3⟩].flatMap Rc.cells).toArray 34)).grown hg5 (by have := hbw4.size; simp; omega) (fun k hk => by cases hk; exact hm)
  clear T4 T4' R4 hg5 hbw4
  go_wp2_with fail
  refine (findT_any ⟨#[97]⟩ 20 T5 (by decide) (by decide)).mono ?_
  rw [hf.out, hs.out]
  rintro e w6 ⟨rfl, hb6⟩
  have T6 := T5.below hb6
  have hbw6 := hbw5.trans (hb6.mono hbw5.size)
  clear T5 hb6 hbw5
  go_wp2_with fail
  have S0 : AlS w (w6.alloc (.cells #[.int .i64 2, .int .i64 0, .int .u64 4, .int .i64 1, .int .i64 3] 32)) w6.heap.size g mm :=
    ⟨T6.below ((Below.refl _ _).alloc (Nat.le_refl _) _), AgBox.new w6 ⟨2, 0, 4, 1, 3⟩, hbw6.alloc hbw6.size _⟩
  generalize hW : w6.alloc (.cells #[.int .i64 2, .int .i64 0, .int .u64 4, .int .i64 1, .int .i64 3] 32) = W at S0 ⊢
  clear hW T6 hbw6
  have HMC := of_any (some ⟨W.heap.size, 0, none⟩) 2 2 [1, 3] _ ((Ints.new W 3 .i64 _ 2 [1, 3] #[.int .i64 1, .int .i64 3] rfl rfl rfl (by decide) (fun z hz => by
    simp only [List.mem_cons, List.not_mem_nil, or_false] at hz
    rcases hz with rfl | rfl <;> exact wf_i64 (by omega))).below ((Below.refl _ _).drew))
  rw [o13.out] at HMC
  have S1 := S0.alloc (.cells #[.int .i64 1, .int .i64 3] 3)
  generalize w6.heap.size = ab at *
  go_region_held3 (fun w' => AlS w w' ab g mm ∧ w'.cell? ⟨ab, 0, none⟩ = some (.int .i64 2) ∧ w'.cell? ⟨ab, 1, none⟩ = some (.int .i64 0) ∧ w'.cell? ⟨ab, 2, none⟩ = some (.int .u64 4) ∧ w'.cell? ⟨ab, 3, none⟩ = some (.int .i64 1) ∧ w'.cell? ⟨ab, 4, none⟩ = some (.int .i64 3))
    (first
      | assumption
      | exact S0.drew.full
      | exact S1.drew.full
      | exact (S1.drew.below hbo).full
      | (go_split_ands; exact AlS.full (AlS.below (by assumption) hbn)))
    (first
      | (go_at_call 28; refine HMC.mono ?_; rintro e wq ⟨rfl, hbo⟩)
      | (go_at_call 21; go_split_ands; refine (lenT_any (AlS.tab (by assumption))).mono ?_; rintro e wq ⟨rfl, rfl⟩)
      | (go_at_call 29; go_split_ands; refine (everyT_any (AlS.tab (by assumption))).mono ?_; rintro e wq ⟨rfl, rfl⟩)
      | (go_at_call 23; go_split_ands; refine (needT_any 1 (AlS.tab (by assumption)) (by decide) (by decide)).mono ?_; rw [hd.out]; rintro e wq ⟨rfl, hbn⟩))
  go_split_ands
  have hfin : AlS w wq ab g mm := by assumption
  go_wp2
  go_ret
  exact ⟨rfl, hfin.bel⟩
end Go.Proofs.Ytdlmipoeeiaapaa
