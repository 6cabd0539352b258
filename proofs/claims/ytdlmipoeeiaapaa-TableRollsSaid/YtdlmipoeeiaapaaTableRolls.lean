/-
  TableRolls: its walk.
-/
import Derived.Test.YtdlmipoeeiaapaaRecIn
import Derived.Test.YtdlmipoeeiaapaaAlive10
import Derived.Test.YtdlmipoeeiaapaaRollLaws
import Derived.Test.YtdlmipoeeiaapaaRefAgg
import Derived.Test.YtdlmipoeeiaapaaSameRecs
namespace Go.Proofs.Ytdlmipoeeiaapaa
open Go.RowKit Go.Maps

theorem tot_fnext {l : List Rc} (h : ∀ r ∈ l, r.ag.V) (P : Rc → Bool) (j : Nat) (hj : j < l.length) : tot (((l.take (j + 1)).filter P).map Rc.ag) = if P l[j] = true then plus (tot (((l.take j).filter P).map Rc.ag)) l[j].ag else tot (((l.take j).filter P).map Rc.ag) := by
  rw [List.take_succ_eq_append_getElem hj, List.filter_append, List.filter_cons]
  split
  · rw [List.filter_nil, List.map_append, List.map_singleton, tot_next (good_ags (fun r hr => h r (List.mem_of_mem_take hr)) P) (h _ (List.getElem_mem hj)).good]
  · rw [List.filter_nil, List.append_nil]
theorem tot_mnext {l : List Rc} (h : ∀ r ∈ l, r.ag.V) (j : Nat) (hj : j < l.length) : tot ((l.take (j + 1)).map Rc.ag) = plus (tot ((l.take j).map Rc.ag)) l[j].ag := by
  rw [List.take_succ_eq_append_getElem hj, List.map_append, List.map_singleton, tot_next (fun a ha => ?_) (h _ (List.getElem_mem hj)).good]
  obtain ⟨r, hr, rfl⟩ := List.mem_map.1 ha
  exact (h r (List.mem_of_mem_take hr)).good
theorem good_mags {l : List Rc} (h : ∀ r ∈ l, r.ag.V) (j : Nat) : (tot ((l.take j).map Rc.ag)).Good := good_tot fun a ha => by
  obtain ⟨r, hr, rfl⟩ := List.mem_map.1 ha
  exact (h r (List.mem_of_mem_take hr)).good
theorem two_boxes (w : World) : AgBox ((w.alloc (.cells #[.int .i64 0, .int .i64 0, .int .u64 0, .int .i64 0, .int .i64 0] 32)).alloc (.cells #[.int .i64 0, .int .i64 0, .int .u64 0, .int .i64 0, .int .i64 0] 32)) w.heap.size Ag.zero ∧ AgBox ((w.alloc (.cells #[.int .i64 0, .int .i64 0, .int .u64 0, .int .i64 0, .int .i64 0] 32)).alloc (.cells #[.int .i64 0, .int .i64 0, .int .u64 0, .int .i64 0, .int .i64 0] 32)) (w.heap.size + 1) Ag.zero ∧ Below w.heap.size w ((w.alloc (.cells #[.int .i64 0, .int .i64 0, .int .u64 0, .int .i64 0, .int .i64 0] 32)).alloc (.cells #[.int .i64 0, .int .i64 0, .int .u64 0, .int .i64 0, .int .i64 0] 32)) := by
  refine ⟨(AgBox.new w Ag.zero).below ((Below.refl _ _).alloc (Nat.le_refl _) _), ?_, ((Below.refl _ _).alloc (Nat.le_refl _) _).alloc (by simp) _⟩
  have := AgBox.new (w.alloc (.cells #[.int .i64 0, .int .i64 0, .int .u64 0, .int .i64 0, .int .i64 0] 32)) Ag.zero
  rw [show (w.alloc (.cells #[.int .i64 0, .int .i64 0, .int .u64 0, .int .i64 0, .int .i64 0] 32)).heap.size = w.heap.size + 1 from by simp] at this
  exact this
set_option maxRecDepth 100000 in
set_option maxHeartbeats 8000000 in
theorem walk_tableRolls {w : World} (A : Option Addr) (n cap : Nat) (rs : List Rc) (hrs : Rcs w A n rs) (a : Int) (_ : (Lit.int .i64 a).wf = true) (b : Int) (_ : (Lit.int .i64 b).wf = true) (fr : Int) (_ : (Lit.int .i64 fr).wf = true) :
    Calls Try.prog 4 #[.slice A n cap, .int .i64 a, .int .i64 b, .int .i64 fr] w fun e w' => e = .returned (.bool true) ∧ Below w.heap.size w w' := by
  by_cases h1 : a < 1
  · go_enter Try.func4, Try.ntmps4
    go_wp2_with fail
    refine (few_any 40 A n cap rs w hrs (by omega)).mono ?_
    rintro e w1 ⟨v, rfl, hv, rfl⟩
    cases v
    all_goals
      clear hv
      go_wp2_with fail
      refine (alive_any _).mono ?_
      rintro e w2 ⟨rfl, hb2⟩
      go_wp2_with fail
      go_ret
      exact ⟨rfl, hb2⟩
  have a1 : 1 ≤ a := by omega
  clear h1
  by_cases h2 : 1000 < a
  · go_enter Try.func4, Try.ntmps4
    go_wp2_with fail
    refine (few_any 40 A n cap rs w hrs (by omega)).mono ?_
    rintro e w1 ⟨v, rfl, hv, rfl⟩
    cases v
    all_goals
      clear hv
      go_wp2_with fail
      refine (alive_any _).mono ?_
      rintro e w2 ⟨rfl, hb2⟩
      go_wp2_with fail
      go_ret
      exact ⟨rfl, hb2⟩
  have a2 : a ≤ 1000 := by omega
  clear h2
  by_cases h3 : b < 1
  · go_enter Try.func4, Try.ntmps4
    go_wp2_with fail
    refine (few_any 40 A n cap rs w hrs (by omega)).mono ?_
    rintro e w1 ⟨v, rfl, hv, rfl⟩
    cases v
    all_goals
      clear hv
      go_wp2_with fail
      refine (alive_any _).mono ?_
      rintro e w2 ⟨rfl, hb2⟩
      go_wp2_with fail
      go_ret
      exact ⟨rfl, hb2⟩
  have b1 : 1 ≤ b := by omega
  clear h3
  by_cases h4 : 1000 < b
  · go_enter Try.func4, Try.ntmps4
    go_wp2_with fail
    refine (few_any 40 A n cap rs w hrs (by omega)).mono ?_
    rintro e w1 ⟨v, rfl, hv, rfl⟩
    cases v
    all_goals
      clear hv
      go_wp2_with fail
      refine (alive_any _).mono ?_
      rintro e w2 ⟨rfl, hb2⟩
      go_wp2_with fail
      go_ret
      exact ⟨rfl, hb2⟩
  have b2 : b ≤ 1000 := by omega
  clear h4
  by_cases h5 : fr < 0
  · go_enter Try.func4, Try.ntmps4
    go_wp2_with fail
    refine (few_any 40 A n cap rs w hrs (by omega)).mono ?_
    rintro e w1 ⟨v, rfl, hv, rfl⟩
    cases v
    all_goals
      clear hv
      go_wp2_with fail
      refine (alive_any _).mono ?_
      rintro e w2 ⟨rfl, hb2⟩
      go_wp2_with fail
      go_ret
      exact ⟨rfl, hb2⟩
  have f1 : 0 ≤ fr := by omega
  clear h5
  have ab1 : 1 ≤ a * b := Int.mul_pos (show 0 < a by omega) (show 0 < b by omega)
  have ab2 : a * b ≤ 1000000 := Int.le_trans (Int.mul_le_mul a2 b2 (by omega) (by omega)) (by decide)
  have d1 : decide (a < 1) = false := decide_eq_false (by omega)
  have d2 : decide (1000 < a) = false := decide_eq_false (by omega)
  have d3 : decide (b < 1) = false := decide_eq_false (by omega)
  have d4 : decide (1000 < b) = false := decide_eq_false (by omega)
  have d5 : decide (fr < 0) = false := decide_eq_false (by omega)
  go_enter Try.func4, Try.ntmps4
  go_wp2_with fail
  refine (few_any 40 A n cap rs w hrs (by omega)).mono ?_
  rintro e w1 ⟨v, rfl, hv, rfl⟩
  cases v
  · clear hv
    go_wp2_with fail
    refine (alive_any _).mono ?_
    rintro e w2 ⟨rfl, hb2⟩
    go_wp2_with fail
    go_ret
    exact ⟨rfl, hb2⟩
  have hn40 := hv rfl
  have HN40 : n ≤ 40 := by omega
  clear hv hn40
  go_wp2_with fail
  refine (newT_any 1 w).mono ?_
  rintro e w1 ⟨g, mm, rfl, T1, hb1, hg, hm⟩
  rw [show max (1 : Int) 1 = 1 from by decide] at T1
  go_wp2_with fail
  refine (addT_any (c := cap) _ T1 (hrs.below hb1) (by decide) (by simp; omega)).mono ?_
  rintro e w2 ⟨rfl, T2, hg2⟩
  have hL := fill_len rs
  have hlen := hrs.len
  have SL := sound_fill hrs.ok
  have hbw2 := hb1.grown hg2 hb1.size (fun k hk => by cases hk; exact hm)
  generalize addL 1 [] rs = L at *
  generalize addN 1 rs = an at *
  have hfew : L.length ≤ 40 := by omega
  clear hL hlen T1 hb1 hg2
  have HTW := Lib.hid (roll_twice SL a1 b1)
  have hlX := rollL_len a 0 L
  have SX := sound_roll (fr := 0) SL a1
  have hl1 := rollL_len (a * b) 0 L
  have hlC := rollL_len a fr L
  have HTC := Lib.hid (roll_tot (fr := fr) SL a1)
  have HMC := Lib.hid (show ∀ r ∈ rollL a fr L, fr ≤ r.st ∧ r.st % a = 0 ∧ 0 ≤ r.st from fun r hr => by obtain ⟨x, hx, e1, e2, e3⟩ := mem_roll hr; rw [e3]; exact ⟨e1, flr_mod, (flr_bd (SL.st x hx) a1).1⟩)
  have HVC := Lib.hid (tab_roll (ev := a) (fr := fr) SL).v
  have HSL := Lib.hid SL
  have HSX := Lib.hid SX
  have hd1 : (a * b) % 1 = 0 := Int.emod_one _
  have hd2 : a % 1 = 0 := Int.emod_one _
  have hd3 : (a * b) % a = 0 := Int.mul_emod_right a b
  have R1 := fun (W : World) (h : TableAt W g mm 1 L) => rollT_any (a * b) 0 h (by omega) HSL.out.st (by omega) (by omega) hd1
  have R2 := fun (W : World) (h : TableAt W g mm 1 L) => rollT_any a 0 h (by omega) HSL.out.st (by omega) (by omega) hd2
  have R3 := fun (W : World) (G M : Nat) (h : TableAt W G M a (rollL a 0 L)) => rollT_any (a * b) 0 h (by omega) HSX.out.st (by omega) (by omega) hd3
  have R4 := fun (W : World) (h : TableAt W g mm 1 L) => rollT_any a fr h (by omega) HSL.out.st (by omega) (by omega) hd2
  rw [HTW.out] at R3
  clear SL SX hd1 hd2 hd3
  generalize rollL (a * b) 0 L = N1 at *
  generalize rollL a 0 L = X at *
  generalize rollL a fr L = C at *
  go_wp2_with fail
  refine (R1 _ T2).mono ?_
  rintro e w3 ⟨g3, m3, rfl, ONE, hb3, hg3, hm3⟩
  have T3 := T2.below hb3
  have hbw3 := hbw2.trans (hb3.mono hbw2.size)
  clear T2 hbw2 hb3 hg3 hm3
  go_wp2_with fail
  refine (R2 _ T3).mono ?_
  rintro e w4 ⟨g4, m4, rfl, TX, hb4, hg4, hm4⟩
  have T4 := T3.below hb4
  have O4 := ONE.below hb4
  have hbw4 := hbw3.trans (hb4.mono hbw3.size)
  clear T3 ONE hbw3 hb4 hg4 hm4
  go_wp2_with fail
  refine (R3 _ _ _ TX).mono ?_
  rintro e w5 ⟨g5, m5, rfl, TWO, hb5, hg5, hm5⟩
  have T5 := T4.below hb5
  have O5 := O4.below hb5
  have hbw5 := hbw4.trans (hb5.mono hbw4.size)
  clear T4 O4 TX hbw4 hb5 hg5 hm5
  go_wp2_with fail
  refine (R4 _ T5).mono ?_
  rintro e w6 ⟨g6, m6, rfl, CUT, hb6, hg6, hm6⟩
  have T6 := T5.below hb6
  have O6 := O5.below hb6
  have W6 := TWO.below hb6
  have hbw6 := hbw5.trans (hb6.mono hbw5.size)
  clear T5 O5 TWO hbw5 hb6 hg6 hm6 R1 R2 R3 R4
  go_wp2_with fail
  refine (allT_any O6 (by omega)).mono ?_
  rintro e w7 ⟨v, rfl, hrow, hb7⟩
  obtain ⟨A7, c7, rfl, S7⟩ := own_rcs hrow O6.ok (by unfold maxLen; omega)
  have W7 := W6.below hb7
  have T7 := T6.below hb7
  have C7 := CUT.below hb7
  have hbw7 := hbw6.trans (hb7.mono hbw6.size)
  clear T6 O6 W6 CUT hbw6 hb7 hrow
  go_wp2_with fail
  refine (allT_any W7 (by omega)).mono ?_
  rintro e w8 ⟨v, rfl, hrow, hb8⟩
  obtain ⟨A8, c8, rfl, S8⟩ := own_rcs hrow W7.ok (by unfold maxLen; omega)
  have T8 := T7.below hb8
  have C8 := C7.below hb8
  have S7' := S7.below hb8
  have hbw8 := hbw7.trans (hb8.mono hbw7.size)
  clear T7 W7 C7 S7 hbw7 hb8 hrow
  go_wp2_with fail
  refine (sameRecs_any _ _ _ _ _ _ N1 _ S7' S8).mono ?_
  rintro e w9 ⟨rfl, hb9⟩
  have T9 := T8.below hb9
  have C9 := C8.below hb9
  have hbw9 := hbw8.trans (hb9.mono hbw8.size)
  clear T8 C8 S7' S8 hbw8 hb9
  go_wp2_with fail
  refine (allT_any T9 (by omega)).mono ?_
  rintro e w10 ⟨v, rfl, hrow, hb10⟩
  obtain ⟨A10, c10, rfl, S10⟩ := own_rcs hrow T9.ok (by unfold maxLen; omega)
  have C10 := C9.below hb10
  have hbw10 := hbw9.trans (hb10.mono hbw9.size)
  clear T9 C9 hbw9 hb10 hrow
  go_wp2_with fail
  refine (allT_any C10 (by omega)).mono ?_
  rintro e w11 ⟨v, rfl, hrow, hb11⟩
  obtain ⟨A11, c11, rfl, S11⟩ := own_rcs hrow C10.ok (by unfold maxLen; omega)
  have S10' := S10.below hb11
  have hbw11 := hbw10.trans (hb11.mono hbw10.size)
  clear C10 S10 hbw10 hb11 hrow
  obtain ⟨B0, B1, hbB⟩ := two_boxes w11
  go_wp2_with fail
  have HP0 := Lib.hid (show (((L.take 0).filter fun r : Rc => decide (fr ≤ flr r.st a)).map Rc.ag) = [] by simp)
  have HPN := Lib.hid (tot_fnext HSL.out.v (fun r : Rc => decide (fr ≤ flr r.st a)))
  have HPG := Lib.hid (fun j : Nat => good_tot (good_ags (l := L.take j) (fun r hr => HSL.out.v r (List.mem_of_mem_take hr)) (fun r : Rc => decide (fr ≤ flr r.st a))))
  have HQ0 := Lib.hid (show ((C.take 0).map Rc.ag) = [] by simp)
  have HQN := Lib.hid (tot_mnext HVC.out)
  have HQG := Lib.hid (good_mags HVC.out)
  go_loopw [18] (fun i wr => ∃ j : Nat, j ≤ L.length ∧ i = .int .i64 j ∧ AgBox wr w11.heap.size (tot (((L.take j).filter fun r : Rc => decide (fr ≤ flr r.st a)).map Rc.ag)) ∧ AgBox wr (w11.heap.size + 1) Ag.zero ∧ Below w11.heap.size w11 wr) (fun i _ => L.length - (intOf i).toNat)
  case atStart => exact ⟨0, Nat.zero_le _, rfl, by rw [HP0.out]; exact B0, B1, hbB⟩
  case round =>
    clear B0 B1 hbB
    obtain ⟨j, hj, rfl, P, Q, hbr⟩ := hrel
    have hP1 := P.lt
    have hQ1 := Q.lt
    by_cases hlt : j < L.length
    · obtain ⟨b0, off, rfl, hb0, X⟩ := (S10'.below hbr).get hlt
      obtain ⟨r0, r1, r2, r3, r4, r5, r6⟩ := X
      have HNX := Lib.hid (HPN.out j hlt)
      have HZ := Lib.hid (HPG.out j)
      have HVX := Lib.hid (HSL.out.v _ (List.getElem_mem hlt))
      have hx0 := HSL.out.st _ (List.getElem_mem hlt)
      have hxb := bd_i64 (S10'.st _ (List.getElem_mem hlt))
      generalize tot (((L.take j).filter fun r : Rc => decide (fr ≤ flr r.st a)).map Rc.ag) = z at *
      generalize L[j]'hlt = x at *
      have hF := fun W => refFloor_any x.st a W ⟨hx0, hxb.2⟩ ⟨a1, by omega⟩
      obtain ⟨y, hy⟩ : ∃ y, flr x.st a = y := ⟨_, rfl⟩
      rw [hy] at hF HNX
      clear hy
      have g0 : (0 : Int) ≤ (j : Int) := by omega
      have g1 : (j : Int) < (L.length : Int) := by omega
      obtain ⟨p0, p1, p2, p3, p4⟩ := P.cells
      by_cases hfr : fr ≤ y
      · have HK := Lib.hid (HNX.out.trans (if_pos (decide_eq_true hfr)))
        clear HNX
        go_wp2_with (go_at_call 17; (with_reducible refine (hF _).mono ?_); rintro e w7 ⟨rfl, rfl⟩)
        have PD := P.below ((Below.refl wr.heap.size wr).drew)
        have QD := Q.below ((Below.refl wr.heap.size wr).drew)
        have hbD := hbr.drew
        go_region_with (go_at_call 18; (with_reducible refine (refMerge_any z x.ag HZ.out HVX.out _).mono ?_); rintro e wq ⟨rfl, hbq⟩
                        have P2 := PD.below hbq
                        have Q2 := QD.below hbq
                        have hb2 := hbD.trans (hbq.mono hbD.size)
                        obtain ⟨e0, e1, e2, e3, e4⟩ := P2.cells
                        have f0 := P2.free 0
                        have f1 := P2.free 1
                        have f2 := P2.free 2
                        have f3 := P2.free 3
                        have f4 := P2.free 4)
        all_goals
          go_wp2
          go_roundw
          case rel => exact ⟨j + 1, by omega, by go_num, by rw [HK.out]; exact P2.set (plus z x.ag), ((((Q2.other (by simp) _).other (by simp) _).other (by simp) _).other (by simp) _).other (by simp) _, ((((hb2.setCell (Nat.le_refl _) _).setCell (Nat.le_refl _) _).setCell (Nat.le_refl _) _).setCell (Nat.le_refl _) _).setCell (Nat.le_refl _) _⟩
          case measure => simp [intOf]; omega
      · have HK := Lib.hid (HNX.out.trans (if_neg (by rw [decide_eq_false hfr]; simp)))
        have hd : decide (fr ≤ y) = false := decide_eq_false hfr
        clear HNX p0 p1 p2 p3 p4
        go_wp2_with (go_at_call 17; (with_reducible refine (hF _).mono ?_); rintro e w7 ⟨rfl, rfl⟩)
        go_roundw
        case rel => exact ⟨j + 1, by omega, by go_num, by rw [HK.out]; exact P, Q, hbr⟩
        case measure => simp [intOf]; omega
    · have HLE := Lib.hid (show L.take j = L from List.take_of_length_le (by omega))
      rw [HLE.out, ← HTC.out] at P
      clear hP1 hQ1
      go_wp2_with fail
      have HQE := Lib.hid (show ((C.take C.length).map Rc.ag) = C.map Rc.ag from by rw [List.take_length])
      obtain ⟨zz, hzz⟩ : ∃ zz, zz = tot (C.map Rc.ag) := ⟨_, rfl⟩
      rw [← hzz] at P
      have HZZ := Lib.hid hzz
      clear hzz
      go_loopw [19] (fun i wr => ∃ j : Nat, j ≤ C.length ∧ i = .int .i64 j ∧ AgBox wr w11.heap.size zz ∧ AgBox wr (w11.heap.size + 1) (tot ((C.take j).map Rc.ag)) ∧ Below w11.heap.size w11 wr) (fun i _ => C.length - (intOf i).toNat)
      case atStart => exact ⟨0, Nat.zero_le _, rfl, P, by rw [HQ0.out]; exact Q, hbr⟩
      case round =>
        clear P Q hbr
        obtain ⟨q, hq, rfl, P, Q, hbr⟩ := hrel
        have hP1 := P.lt
        have hQ1 := Q.lt
        by_cases hlt2 : q < C.length
        · obtain ⟨b0, off, rfl, hb0, X⟩ := (S11.below hbr).get hlt2
          obtain ⟨r0, r1, r2, r3, r4, r5, r6⟩ := X
          have HNX := Lib.hid (HQN.out q hlt2)
          have HZ := Lib.hid (HQG.out q)
          have HVX := Lib.hid (HVC.out _ (List.getElem_mem hlt2))
          obtain ⟨m1, m2, m3⟩ := HMC.out _ (List.getElem_mem hlt2)
          generalize tot ((C.take q).map Rc.ag) = z at *
          generalize C[q]'hlt2 = x at *
          have hmt : x.st.tmod a = 0 := by rw [tmod_pos m3]; exact m2
          have hd : decide (x.st < fr) = false := decide_eq_false (by omega)
          have hane : a ≠ 0 := by omega
          have g0 : (0 : Int) ≤ (q : Int) := by omega
          have g1 : (q : Int) < (C.length : Int) := by omega
          obtain ⟨p0, p1, p2, p3, p4⟩ := Q.cells
          go_wp2_with fail
          have PD := P.below ((Below.refl wr.heap.size wr).drew)
          have QD := Q.below ((Below.refl wr.heap.size wr).drew)
          have hbD := hbr.drew
          go_region_with (go_at_call 18; (with_reducible refine (refMerge_any z x.ag HZ.out HVX.out _).mono ?_); rintro e wq ⟨rfl, hbq⟩
                          have P2 := PD.below hbq
                          have Q2 := QD.below hbq
                          have hb2 := hbD.trans (hbq.mono hbD.size)
                          obtain ⟨e0, e1, e2, e3, e4⟩ := Q2.cells
                          have f0 := Q2.free 0
                          have f1 := Q2.free 1
                          have f2 := Q2.free 2
                          have f3 := Q2.free 3
                          have f4 := Q2.free 4)
          all_goals
            go_wp2
            go_roundw
            case rel => exact ⟨q + 1, by omega, by go_num, ((((P2.other (by simp) _).other (by simp) _).other (by simp) _).other (by simp) _).other (by simp) _, by rw [HNX.out]; exact Q2.set (plus z x.ag), ((((hb2.setCell (by simp) _).setCell (by simp) _).setCell (by simp) _).setCell (by simp) _).setCell (by simp) _⟩
            case measure => simp [intOf]; omega
        · have hqe : q = C.length := by omega
          subst hqe
          rw [HQE.out, ← HZZ.out] at Q
          have hbf := hbw11.trans (hbr.mono hbw11.size)
          go_wp2_with fail
          refine (alive_any _).mono ?_
          rintro e w30 ⟨rfl, hb30⟩
          have P3 := P.below hb30
          have Q3 := Q.below hb30
          have hbf3 := hbf.trans (hb30.mono hbf.size)
          obtain ⟨p0, p1, p2, p3, p4⟩ := P3.cells
          obtain ⟨q0, q1, q2, q3, q4⟩ := Q3.cells
          go_wp2_with fail
          go_ret
          exact ⟨rfl, hbf3⟩
end Go.Proofs.Ytdlmipoeeiaapaa
