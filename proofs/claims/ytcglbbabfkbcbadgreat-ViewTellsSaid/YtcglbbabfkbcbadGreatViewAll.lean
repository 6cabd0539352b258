/-
  view.All, view.Count.
-/
import Derived.Test.YtcglbbabfkbcbadGreatM11
namespace Go.Proofs.YtcglbbabfkbcbadGreat
open Go.ChangeShapes Go.WideShapes Go.ChangeAt Go.RowKit Go.Deep Go.Maps

theorem info_recs : (Tryz.prog.info? 49).map (fun i => (i.zero, i.size, i.bytes)) = some (some (.slice none 0 0), 1, 24) := by kernel_rfl
/-- Lists of records, one behind the other, in rows of the call's own; no two in one row. -/
structure VRows (w : World) (B : Nat) (v : Value) (vs : List Value) (Ls : List (List Rc)) : Prop where
  len : vs.length = Ls.length
  own : w.ownsRow B 49 1 v vs.length vs
  each : ∀ i (h : i < vs.length) (h' : i < Ls.length), w.ownsRow B 61 7 vs[i] Ls[i].length (Ls[i].flatMap Rc.cells)
  apart : vs.Pairwise (fun a b => a.ownBlock = none ∨ a.ownBlock ≠ b.ownBlock)
  off : ∀ u ∈ vs, u.ownBlock = none ∨ u.ownBlock ≠ v.ownBlock
theorem VRows.each' {w : World} {B : Nat} {v : Value} {vs : List Value} {Ls : List (List Rc)} (h : VRows w B v vs Ls) : ∀ u ∈ vs, ∃ n xs, w.ownsRow B 61 7 u n xs := by
  intro u hu
  obtain ⟨i, hi, rfl⟩ := List.getElem_of_mem hu
  exact ⟨_, _, h.each i hi (by rw [← h.len]; exact hi)⟩
theorem VRows.below {w w' : World} {B : Nat} {v : Value} {vs : List Value} {Ls : List (List Rc)} (h : VRows w B v vs Ls) (hb : Below w.heap.size w w') : VRows w' B v vs Ls :=
  ⟨h.len, own_below' h.own hb, fun i h1 h2 => own_below' (h.each i h1 h2) hb, h.apart, h.off⟩
theorem VRows.nil (w : World) (B : Nat) : VRows w B (.slice none 0 0) [] [] := ⟨rfl, World.ownsRow_nil _ _ _ _, by simp, List.Pairwise.nil, by simp⟩
theorem VRows.one {w : World} {B : Nat} {v : Value} {vs : List Value} {Ls : List (List Rc)} (h : VRows w B v vs Ls) : ∀ u ∈ vs, u.oneCell' = true := by
  intro u hu
  obtain ⟨n, xs, ho⟩ := h.each' u hu
  obtain ⟨A, c, rfl, _⟩ := own_sl ho
  rfl
/-- One list more. -/
theorem VRows.snoc {w w1 w4 : World} {B : Nat} {v v' u : Value} {vs : List Value} {Ls : List (List Rc)} {L : List Rc} (h : VRows w B v vs Ls) (hb : Below w.heap.size w w1) (hu : w1.ownsRow w.heap.size 61 7 u L.length (L.flatMap Rc.cells)) (hB : B ≤ w.heap.size)
    (hg : w1.grownBy w4 v.ownBlock) (ho : w4.ownsRow B 49 1 v' (vs.length + 1) (vs ++ [u])) (hat : v'.ownBlock = v.ownBlock ∨ ∃ g, v'.ownBlock = some g ∧ w1.heap.size ≤ g) : VRows w4 B v' (vs ++ [u]) (Ls ++ [L]) := by
  have hvlt := h.own.lt
  have hult := hu.lt
  have huv : u.ownBlock = none ∨ u.ownBlock ≠ v.ownBlock := by
    cases e : u.ownBlock with
    | none => exact .inl rfl
    | some g =>
      refine .inr fun e2 => ?_
      have h1 := (hult g e).1
      have h2 := (hvlt g e2.symm).2
      omega
  have hu4 := hu.kept hg huv
  have hold : ∀ x ∈ vs, x.ownBlock = none ∨ ∃ g, x.ownBlock = some g ∧ g < w.heap.size := fun x hx => by
    obtain ⟨n, xs, hx'⟩ := h.each' x hx
    cases e : x.ownBlock with
    | none => exact .inl rfl
    | some g => exact .inr ⟨g, rfl, (hx'.lt g e).2⟩
  refine ⟨by simp [h.len], by simpa using ho, fun i h1 h2 => ?_, ?_, fun x hx => ?_⟩
  · by_cases e : i < vs.length
    · have e' : i < Ls.length := by rw [← h.len]; exact e
      rw [List.getElem_append_left e, List.getElem_append_left e']
      exact (own_below' (h.each i e e') hb).kept hg (h.off _ (List.getElem_mem e))
    · have e' : i = vs.length := by simp at h1; omega
      subst e'
      have e2 := h.len
      simp only [List.getElem_append_right (Nat.le_refl _), Nat.sub_self, List.getElem_cons_zero]
      have e3 : (Ls ++ [L])[vs.length] = L := by
        rw [List.getElem_append_right (by omega)]; simp [e2]
      rw [e3]
      exact own_low hu4 hB
  · rw [List.pairwise_append]
    refine ⟨h.apart, by simp, fun a ha b hb' => ?_⟩
    rw [List.mem_singleton.1 hb']
    rcases hold a ha with e | ⟨g, e, hlt⟩
    · exact .inl e
    · refine .inr fun e2 => ?_
      rw [e] at e2
      have := (hult g e2.symm).1
      omega
  · rcases hat with e | ⟨g, e, hge⟩
    · rw [e]
      rcases List.mem_append.1 hx with hx | hx
      · exact h.off x hx
      · rw [List.mem_singleton.1 hx]; exact huv
    · rw [e]
      rcases List.mem_append.1 hx with hx | hx
      · rcases hold x hx with e3 | ⟨g3, e3, hlt⟩
        · exact .inl e3
        · refine .inr fun e4 => ?_
          rw [e3] at e4
          cases e4
          have := hb.size
          omega
      · rw [List.mem_singleton.1 hx]
        cases e3 : u.ownBlock with
        | none => exact .inl rfl
        | some g3 =>
          refine .inr fun e4 => ?_
          cases e4
          have := (hult g e3).2
          omega
/-- Each tier's records. -/
noncomputable def viewAll (r : Rch) (l : List Smp) (n : Nat) : List (List Rc) := (List.range n).map fun i : Nat => viewL r i l
theorem viewAll_succ (r : Rch) (l : List Smp) (n : Nat) : viewAll r l (n + 1) = viewAll r l n ++ [viewL r n l] := by unfold viewAll; rw [List.range_succ, List.map_append]; rfl
theorem viewAll_len (r : Rch) (l : List Smp) (n : Nat) : (viewAll r l n).length = n := by simp [viewAll]
set_option maxRecDepth 100000 in
set_option maxHeartbeats 8000000 in
theorem all_any (A : Option Addr) (n c : Nat) (B : Option Addr) (m d : Nat) (r : Rch) (C : Option Addr) (k e : Nat) (l : List Smp) (w : World) (h : RchAt w A n B m r) (hn : n ≤ 100000) (hl : Smps w C k l) (hk : k ≤ 100000) :
    Calls Tryz.prog 10 #[rchV r.now r.nm A n c B m d, .slice C k e] w fun x w' => ∃ v vs, x = .returned v ∧ VRows w' w.heap.size v vs (viewAll r l n) ∧ Below w.heap.size w w' := by
  have hb0 : Below w.heap.size w (w.alloc (.cells #[.int .i64 r.now, .string r.nm, .slice A n c, .slice B m d] 46)) := (Below.refl _ w).alloc (Nat.le_refl _) _
  have b0 := Bx.new w 46 #[.int .i64 r.now, .string r.nm, .slice A n c, .slice B m d]
  have HT := Lib.hid h
  have HS := Lib.hid hl
  obtain ⟨i0, hi, hz0, hz1, hz2⟩ := info_parts info_recs
  have HI := Lib.hid hi
  have HI0 := Lib.hid hz0
  have HI1 := Lib.hid hz1
  have HI2 := Lib.hid hz2
  clear hi hz0 hz1 hz2 h hl
  go_enter Tryz.func10, Tryz.ntmps10
  go_wp2_with fail
  go_loopw [5, 6, 11] (fun v _ i wr => ∃ (j : Nat) (vs : List Value), j ≤ n ∧ i = .int .i64 j ∧ vs.length = j ∧ VRows wr w.heap.size v vs (viewAll r l j) ∧ Bx wr w.heap.size 46 #[.int .i64 r.now, .string r.nm, .slice A n c, .slice B m d] ∧ (∀ g, v.ownBlock = some g → g ≠ w.heap.size) ∧ Below w.heap.size w wr) (fun _ _ i _ => n - (intOf i).toNat)
  case atStart => exact ⟨0, [], Nat.zero_le _, rfl, rfl, VRows.nil _ _, b0, by simp [Value.ownBlock], hb0⟩
  case round =>
    clear b0 hb0
    obtain ⟨j, vs, hj, rfl, hvl, hV, bx, hvb, hbr⟩ := hrel
    by_cases hlt : j < n
    · have hb0s := bx.lt
      have q0 := bx.at_ 0 rfl
      have q1 := bx.at_ 1 rfl
      have q2 := bx.at_ 2 rfl
      have q3 := bx.at_ 3 rfl
      have HTI := Lib.hid (tier_any A n c B m d r (j : Int) C k e l wr (HT.out.below hbr) (by omega) (HS.out.below hbr) hk)
      have HVL := Lib.hid hvl
      have HVV := Lib.hid hV
      have HVB := Lib.hid hvb
      clear hvl hV hvb
      go_wp2_with (first
        | (go_at_call 9
           refine HTI.out.mono ?_
           rintro e w1 ⟨u, rfl, hu, hb1⟩
           obtain ⟨A', c', rfl, _⟩ := own_sl hu
           have HLE := Lib.hid (view_len r j l)
           have HU := Lib.hid hu
           have hsz1 := hb1.size
           have hbr0 := hbr.size
           have hba := (Below.refl w1.heap.size w1).alloc (Nat.le_refl _) (.cells #[.slice A' (viewL r j l).length c'] 49)
           have HOV := Lib.hid (own_below' (HVV.out.below hb1).own hba)
           have HSL := Lib.hid (Sl.new w1 49 w1.heap.size [.slice A' (viewL r j l).length c'] #[.slice A' (viewL r j l).length c'] rfl rfl)
           have HON := Lib.hid (show ∀ x ∈ [Value.slice A' (viewL r j l).length c'], x.oneCell' = true from fun x hx => by
             rw [List.mem_singleton.1 hx]; rfl)
           have HU2 := Lib.hid (own_below' hu hba)
           have bx1 := bx.below hb1
           clear hu)
        | (at_builtin
           refine wpList_append_sl _ rfl _ _ 37 rfl w.heap.size 49 i0 _ 1 24 Tryz.underlying37 HI.out HI0.out HI1.out HI2.out rfl (by decide) u5 vs.length vs rfl HOV.out (some ⟨w1.heap.size, 0, none⟩) 1 1 [.slice A' (viewL r j l).length c'] rfl rfl HSL.out HON.out ?c4 ?c5 ?c6 ?_
           (rw [HVL.out]; unfold maxLen; omega)
           (rw [HVL.out]; omega)
           (simp; omega)
           intro v' w4 hown4 hg4 hat4))
      have hbA : Below wr.heap.size wr (w1.alloc (.cells #[.slice A' (viewL r j l).length c'] 49)) := hb1.trans (hba.mono hsz1)
      have hV4 := HVV.out.snoc hbA HU2.out hbr0 hg4 hown4 (hat4.imp id fun h => ⟨_, h, Nat.le_refl _⟩)
      have hvlt := HVV.out.own.lt
      have hbr4 := (hbr.trans (hbA.mono hbr.size)).grown hg4 (Nat.le_trans hbr0 hbA.size) (fun q hq => (hvlt q hq).1)
      have hvb4 : ∀ g, v'.ownBlock = some g → g ≠ w.heap.size := fun g hg e => by
        rcases hat4 with h4 | h4
        · rw [h4] at hg; exact HVB.out g hg e
        · rw [h4] at hg
          have := hbA.size
          have hz := hb0s
          cases hg
          omega
      have bx4 := (bx1.alloc (.cells #[.slice A' (viewL r j l).length c'] 49)).grown hg4 (fun e => HVB.out _ e.symm rfl)
      clear HTI bx1
      go_roundw
      case rel => exact ⟨j + 1, vs ++ [.slice A' (viewL r j l).length c'], by omega, by go_num, by simp [HVL.out], by rw [viewAll_succ]; exact hV4, bx4, hvb4, hbr4⟩
      case measure => simp [intOf]; omega
    · have hje : j = n := by omega
      subst hje
      go_wp2
      go_ret
      exact ⟨_, vs, rfl, hV, hbr⟩
end Go.Proofs.YtcglbbabfkbcbadGreat
