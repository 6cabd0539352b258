/-
  TableDrops: its walk.
-/
import Derived.Test.YtdlmipoeeiaapaaRecIn
import Derived.Test.YtdlmipoeeiaapaaAlive10
namespace Go.Proofs.Ytdlmipoeeiaapaa
open Go.RowKit Go.Maps

theorem TableAt.ok {w : World} {g mm : Nat} {ev : Int} {l : List Rc} (h : TableAt w g mm ev l) : ∀ r ∈ l, r.Ok := by obtain ⟨_, _, hr⟩ := h.map.own; exact hr.ok
theorem TableAt.ord {w : World} {g mm : Nat} {ev : Int} {l : List Rc} (h : TableAt w g mm ev l) : l.Pairwise Rc.lt := by obtain ⟨_, _, hr⟩ := h.map.own; exact hr.ord
theorem filter_at {α : Type} (p : α → Bool) (l : List α) (j : Nat) (h : j < l.length) (hp : p l[j] = true) : (l.filter p)[((l.take j).filter p).length]? = some l[j] := by
  conv => lhs; rw [← List.take_append_drop j l]
  rw [List.filter_append, List.getElem?_append_right (by rw [List.take_append_drop]; exact Nat.le_refl _), List.drop_eq_getElem_cons h, List.filter_cons, if_pos hp]
  simp
theorem filter_next {α : Type} (p : α → Bool) (l : List α) (j : Nat) (h : j < l.length) : ((l.take (j + 1)).filter p).length = ((l.take j).filter p).length + if p l[j] = true then 1 else 0 := by
  rw [List.take_succ_eq_append_getElem h, List.filter_append, List.length_append]
  congr 1
  rw [List.filter_cons]
  split <;> simp
/-- The filling of a new table, as the statements begin. -/
theorem fill_len (rs : List Rc) : (addL 1 [] rs).length ≤ rs.length := by have := addL_len (ev := 1) (l := []) (rs := rs); simpa using this
set_option maxRecDepth 100000 in
set_option maxHeartbeats 4000000 in
theorem walk_tableDrops {w : World} (A : Option Addr) (n cap : Nat) (rs : List Rc) (hrs : Rcs w A n rs) (bl : Int) (hbl : (Lit.int .i64 bl).wf = true) :
    Calls Try.prog 3 #[.slice A n cap, .int .i64 bl] w fun e w' => e = .returned (.bool true) ∧ Below w.heap.size w w' := by
  have HBL := bd_i64 hbl
  go_enter Try.func3, Try.ntmps3
  go_wp2_with fail
  refine (few_any 40 A n cap rs w hrs (by omega)).mono ?_
  rintro e w1 ⟨b, rfl, hb, rfl⟩
  cases b
  · clear hb
    go_wp2_with fail
    refine (alive_any _).mono ?_
    rintro e w2 ⟨rfl, hb2⟩
    go_wp2_with fail
    go_ret
    exact ⟨rfl, hb2⟩
  · have hn40 := hb rfl
    have HN40 : n ≤ 40 := by omega
    clear hb hn40
    go_wp2_with fail
    refine (newT_any 1 w).mono ?_
    rintro e w1 ⟨g, mm, rfl, T1, hb1, hg, hm⟩
    rw [show max (1 : Int) 1 = 1 from by decide] at T1
    go_wp2_with fail
    refine (addT_any (c := cap) _ T1 (hrs.below hb1) (by decide) (by simp; omega)).mono ?_
    rintro e w2 ⟨rfl, T2, hg2⟩
    have hL := fill_len rs
    have hlen := hrs.len
    have hbw2 := hb1.grown hg2 hb1.size (fun k hk => by cases hk; exact hm)
    generalize addL 1 [] rs = L at *
    generalize addN 1 rs = an at *
    have hfew : L.length ≤ 40 := by omega
    clear hL hlen T1 hb1 hg2
    go_wp2_with fail
    refine (allT_any T2 (by omega)).mono ?_
    rintro e w3 ⟨v, rfl, hrow, hb3⟩
    obtain ⟨A3, c3, rfl, R3⟩ := own_rcs hrow T2.ok (by unfold maxLen; omega)
    have T3 := T2.below hb3
    have hbw3 := hbw2.trans (hb3.mono hbw2.size)
    clear T2 hbw2 hb3 hrow
    go_wp2_with fail
    refine (dropBelow_any bl _ T3 (by omega)).mono ?_
    rintro e w4 ⟨rfl, T4, hg4⟩
    have R4 := R3.keepB (fun o => T3.map.nocell o) hg4
    have hbw4 := hbw3.grown hg4 hbw3.size (fun k hk => by cases hk; exact hm)
    have hle := List.length_filter_le (fun r : Rc => !decide (r.st < bl)) L
    obtain ⟨M, hM⟩ : ∃ M, M = L.filter fun r : Rc => !decide (r.st < bl) := ⟨_, rfl⟩
    rw [← hM] at T4 hle ⊢
    have HM := Lib.hid hM
    clear hM R3 T3 hbw3 hg4
    go_wp2_with fail
    refine (allT_any T4 (by omega)).mono ?_
    rintro e w5 ⟨v, rfl, hrow, hb5⟩
    obtain ⟨A5, c5, rfl, R5⟩ := own_rcs hrow T4.ok (by unfold maxLen; omega)
    have T5 := T4.below hb5
    have R5' := R4.below hb5
    have hbw5 := hbw4.trans (hb5.mono hbw4.size)
    clear T4 R4 hbw4 hb5 hrow
    go_wp2_with fail
    have R5b := R5.len
    have HN := Lib.hid (show ∀ j (h : j < L.length), (!decide (L[j].st < bl)) = true → M[((L.take j).filter fun r : Rc => !decide (r.st < bl)).length]? = some L[j] from fun j h hp => by rw [HM.out]; exact filter_at (fun r : Rc => !decide (r.st < bl)) L j h hp)
    have HS := Lib.hid (show ∀ j (h : j < L.length), ((L.take (j + 1)).filter fun r : Rc => !decide (r.st < bl)).length = ((L.take j).filter fun r : Rc => !decide (r.st < bl)).length + if (!decide (L[j].st < bl)) = true then 1 else 0 from fun j h => filter_next (fun r : Rc => !decide (r.st < bl)) L j h)
    have HZ := Lib.hid (show M.filter (fun r : Rc => !decide (r.st < bl)) = M from by rw [HM.out, List.filter_filter]; simp)
    clear R5b
    obtain ⟨w6, hw6⟩ : ∃ w6, w6 = w5 := ⟨_, rfl⟩
    subst hw6
    go_loopw [9, 10] (fun k i wr => ∃ j : Nat, j ≤ L.length ∧ i = .int .i64 j ∧ k = .int .i64 (((L.take j).filter fun r : Rc => !decide (r.st < bl)).length : Nat) ∧ Below w6.heap.size w6 wr) (fun _ i _ => L.length - (intOf i).toNat)
    case atStart => exact ⟨0, Nat.zero_le _, rfl, rfl, Below.refl _ _⟩
    case round =>
      obtain ⟨j, hj, rfl, rfl, hbel⟩ := hrel
      by_cases hlt : j < L.length
      · obtain ⟨b, off, rfl, hb, X⟩ := (R5'.below hbel).get hlt
        obtain ⟨r0, r1, r2, r3, r4, r5, r6⟩ := X
        have HA := Lib.hid (HN.out j hlt)
        have HB := Lib.hid (HS.out j hlt)
        generalize ((L.take j).filter fun r : Rc => !decide (r.st < bl)).length = k at *
        by_cases hs : L[j].st < bl
        · have HK := Lib.hid (show ((L.take (j + 1)).filter fun r : Rc => !decide (r.st < bl)).length = k from by rw [HB.out]; simp [hs])
          clear HB HA
          generalize L[j]'hlt = x at *
          have hd : decide (bl ≤ x.st) = false := decide_eq_false (by omega)
          go_wp2
          go_roundw
          case rel => exact ⟨j + 1, by omega, by go_num, by rw [HK.out], hbel⟩
          case measure => simp [intOf]; omega
        · have HK := Lib.hid (show ((L.take (j + 1)).filter fun r : Rc => !decide (r.st < bl)).length = k + 1 from by rw [HB.out]; simp [hs])
          have hx := HA.out (by simp [hs])
          have hkl : k < M.length := (List.getElem?_eq_some_iff.1 hx).1
          have hxe : M[k] = L[j] := (List.getElem?_eq_some_iff.1 hx).2
          obtain ⟨b2, off2, rfl, hb2, Y⟩ := (R5.below hbel).get hkl
          rw [hxe] at Y
          obtain ⟨s0, s1, s2, s3, s4, s5, s6⟩ := Y
          clear HB HA hx hxe
          generalize L[j]'hlt = x at *
          have hd : bl ≤ x.st := by omega
          have g0 : (0 : Int) ≤ (j : Int) := by omega
          have g1 : (j : Int) < (L.length : Int) := by omega
          have g2 : (0 : Int) ≤ (k : Int) := by omega
          have g3 : (k : Int) < (M.length : Int) := by omega
          have g4 : decide ((M.length : Int) ≤ (k : Int)) = false := decide_eq_false (by omega)
          go_wp2
          go_quiet (fail)
          go_wp2
          go_roundw
          case rel => exact ⟨j + 1, by omega, by go_num, by rw [HK.out]; go_num, below_drewN hbel _⟩
          case measure => simp [intOf]; omega
      · have hje : j = L.length := by omega
        subst hje
        have hMe : ((L.take L.length).filter fun r : Rc => !decide (r.st < bl)).length = M.length := by rw [List.take_length, ← HM.out]
        rw [hMe]
        clear hMe
        have hbw6 := hbw5.trans (hbel.mono hbw5.size)
        have T6 := T5.below hbel
        go_wp2_with fail
        refine (alive_any _).mono ?_
        rintro e w7 ⟨rfl, hb7⟩
        have T7 := T6.below hb7
        have hbw7 := hbw6.trans (hb7.mono hbw6.size)
        clear T6 hbw6 hb7
        go_wp2_with fail
        refine (dropBelow_any bl _ T7 (by omega)).mono ?_
        rw [HZ.out, Int.sub_self]
        rintro e w8 ⟨rfl, T8, hg8⟩
        go_wp2_with fail
        go_ret
        exact ⟨rfl, hbw7.grown hg8 hbw7.size (fun k hk => by cases hk; exact hm)⟩
end Go.Proofs.Ytdlmipoeeiaapaa
