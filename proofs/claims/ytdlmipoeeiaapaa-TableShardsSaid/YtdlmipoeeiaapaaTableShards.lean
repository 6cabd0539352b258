/-
  TableShards: its walk.
-/
import Derived.Test.YtdlmipoeeiaapaaRecIn
import Derived.Test.YtdlmipoeeiaapaaAlive10
import Derived.Test.YtdlmipoeeiaapaaTableShard
import Derived.Test.YtdlmipoeeiaapaaTableCopy
namespace Go.Proofs.Ytdlmipoeeiaapaa
open Go.RowKit Go.Maps

theorem fill_len (rs : List Rc) : (addL 1 [] rs).length ≤ rs.length := by have := addL_len (ev := 1) (l := []) (rs := rs); simpa using this
/-- How many records are of the first k shards. -/
def fewer (n k : Int) (L : List Rc) : Nat := (L.filter fun r => decide (shardI r.nm.toList n < k)).length
def rest (n k : Int) (L : List Rc) : List Rc := L.filter fun r => !decide (shardI r.nm.toList n < k)
theorem fewer_next (n k : Int) (L : List Rc) : fewer n (k + 1) L = fewer n k L + (L.filter fun r => !offP k n r.nm).length := by
  unfold fewer offP
  induction L with
  | nil => rfl
  | cons a r ih =>
    simp only [List.filter_cons]
    by_cases h1 : shardI a.nm.toList n < k
    · have h2 : shardI a.nm.toList n < k + 1 := by omega
      have h3 : (shardI a.nm.toList n != k) = true := bne_iff_ne.2 (by omega)
      simp only [h1, h2, h3, decide_true, if_true, List.length_cons, Bool.not_true, Bool.false_eq_true, if_false]
      omega
    · by_cases h4 : shardI a.nm.toList n = k
      · have h2 : shardI a.nm.toList n < k + 1 := by omega
        have h3 : (shardI a.nm.toList n != k) = false := by rw [h4]; simp
        simp only [h1, h2, h3, decide_true, decide_false, if_true, List.length_cons, Bool.not_false, Bool.false_eq_true, if_false]
        omega
      · have h2 : ¬ shardI a.nm.toList n < k + 1 := by omega
        have h3 : (shardI a.nm.toList n != k) = true := bne_iff_ne.2 h4
        simp only [h1, h2, h3, decide_false, Bool.not_true, Bool.false_eq_true, if_false]
        exact ih
theorem fewer_rest (n k : Int) (L : List Rc) : fewer n k L + (rest n k L).length = L.length := by
  unfold fewer rest
  induction L with
  | nil => rfl
  | cons a r ih =>
    simp only [List.filter_cons]
    by_cases h1 : shardI a.nm.toList n < k <;> simp only [h1, decide_true, decide_false, Bool.not_true, Bool.not_false, if_true, Bool.false_eq_true, if_false, List.length_cons] <;> omega
theorem rest_next (n k : Int) (L : List Rc) : (rest n k L).filter (fun r => !(shardI r.nm.toList n == k)) = rest n (k + 1) L := by
  unfold rest
  rw [List.filter_filter]
  apply List.filter_congr
  intro r _
  by_cases h1 : shardI r.nm.toList n < k
  · have h2 : shardI r.nm.toList n < k + 1 := by omega
    simp [h1, h2]
  · by_cases h4 : shardI r.nm.toList n = k
    · have h2 : shardI r.nm.toList n < k + 1 := by omega
      simp [h4]; omega
    · have h2 : ¬ shardI r.nm.toList n < k + 1 := by omega
      simp [h1, h2, h4]
theorem shard_in (s : List UInt8) (n : Int) (h : 1 ≤ n) : 0 ≤ shardI s n ∧ shardI s n < n := by
  unfold shardI
  rw [if_neg (by omega)]
  exact ⟨Int.emod_nonneg _ (by omega), Int.emod_lt_of_pos _ (by omega)⟩
theorem fewer_none (n : Int) (L : List Rc) (h : 1 ≤ n) : fewer n 0 L = 0 := by
  unfold fewer
  rw [List.length_eq_zero_iff, List.filter_eq_nil_iff]
  intro r _
  have := (shard_in r.nm.toList n h).1
  simp; omega
theorem rest_none (n : Int) (L : List Rc) (h : 1 ≤ n) : rest n n L = [] := by
  unfold rest
  rw [List.filter_eq_nil_iff]
  intro r _
  have := (shard_in r.nm.toList n h).2
  simp; omega
theorem rest_all (n : Int) (L : List Rc) (h : 1 ≤ n) : rest n 0 L = L := by
  unfold rest
  rw [List.filter_eq_self]
  intro r _
  have := (shard_in r.nm.toList n h).1
  simp; omega
theorem need_bd (n : Int) (L : List Rc) : (L.length : Int) ≤ 3 * needR n L ∧ needR n L ≤ L.length ∧ 0 ≤ needR n L := by
  have h := ceils_bd (pos_bumps (shards n L))
  rw [sumC_bumps] at h
  simp only [shards, List.length_map] at h
  exact h
set_option maxRecDepth 100000 in
set_option maxHeartbeats 4000000 in
theorem walk_tableShards {w : World} (A : Option Addr) (n cap : Nat) (rs : List Rc) (hrs : Rcs w A n rs) (sh : Int) (hsh : (Lit.int .i64 sh).wf = true) :
    Calls Try.prog 6 #[.slice A n cap, .int .i64 sh] w fun e w' => e = .returned (.bool true) ∧ Below w.heap.size w w' := by
  have HBL := bd_i64 hsh
  by_cases h1 : sh < 1
  · go_enter Try.func6, Try.ntmps6
    go_wp2_with fail
    refine (few_any 60 A n cap rs w hrs (by omega)).mono ?_
    rintro e w1 ⟨b, rfl, hb, rfl⟩
    cases b
    all_goals
      clear hb
      go_wp2_with fail
      refine (alive_any _).mono ?_
      rintro e w2 ⟨rfl, hb2⟩
      go_wp2_with fail
      go_ret
      exact ⟨rfl, hb2⟩
  by_cases h2 : 20 < sh
  · go_enter Try.func6, Try.ntmps6
    go_wp2_with fail
    refine (few_any 60 A n cap rs w hrs (by omega)).mono ?_
    rintro e w1 ⟨b, rfl, hb, rfl⟩
    cases b
    all_goals
      clear hb
      go_wp2_with fail
      refine (alive_any _).mono ?_
      rintro e w2 ⟨rfl, hb2⟩
      go_wp2_with fail
      go_ret
      exact ⟨rfl, hb2⟩
  have h1' : 1 ≤ sh := by omega
  have h2' : sh ≤ 20 := by omega
  go_enter Try.func6, Try.ntmps6
  go_wp2_with fail
  refine (few_any 60 A n cap rs w hrs (by omega)).mono ?_
  rintro e w1 ⟨b, rfl, hb, rfl⟩
  cases b
  · clear hb
    go_wp2_with fail
    refine (alive_any _).mono ?_
    rintro e w2 ⟨rfl, hb2⟩
    go_wp2_with fail
    go_ret
    exact ⟨rfl, hb2⟩
  · have hn40 := hb rfl
    have HN40 : n ≤ 60 := by omega
    clear hb hn40
    go_wp2_with fail
    refine (newT_any 1 w).mono ?_
    rintro e w1 ⟨g, mm, rfl, T1, hb1, hg, hm⟩
    rw [show max (1 : Int) 1 = 1 from by decide] at T1
    go_wp2_with fail
    refine (addT_any (c := cap) _ T1 (hrs.below hb1) (by decide) (by simp; omega)).mono ?_
    rintro e w2 ⟨rfl, T2, hg2⟩
    have hL := fill_len rs
    have hlen := hrs.len
    have hbw2 := hb1.grown hg2 hb1.size (fun k hk => by cases hk; exact hm)
    generalize addL 1 [] rs = L at *
    generalize addN 1 rs = an at *
    have hfew : L.length ≤ 60 := by omega
    clear hL hlen T1 hb1 hg2
    have HNX := Lib.hid (fewer_next sh · L)
    have HRX := Lib.hid (fewer_rest sh · L)
    have HF0 := Lib.hid (fewer_none sh L h1')
    have HRN := Lib.hid (rest_none sh L h1')
    have HRA := Lib.hid (rest_all sh L h1')
    go_wp2_with fail
    obtain ⟨w3, hw3⟩ : ∃ w3, w3 = w2 := ⟨_, rfl⟩
    subst hw3
    go_loopw [6, 7] (fun t k wr => ∃ j : Nat, (j : Int) ≤ sh ∧ k = .int .i64 j ∧ t = .int .i64 (fewer sh j L) ∧ Below w3.heap.size w3 wr) (fun _ k _ => (sh - intOf k).toNat)
    case atStart => exact ⟨0, by omega, rfl, by rw [show ((0 : Nat) : Int) = 0 from rfl, HF0.out]; rfl, Below.refl _ _⟩
    case round =>
      obtain ⟨j, hj, rfl, rfl, hbel⟩ := hrel
      have hrx := HRX.out j
      have hfw : fewer sh j L ≤ 60 := by omega
      by_cases hlt : (j : Int) < sh
      · have hnx := HNX.out j
        have hrx2 := HRX.out ((j : Int) + 1)
        generalize hq : (L.filter fun r => !offP j sh r.nm) = Q at hnx
        have HNX2 := Lib.hid hnx
        have hql : Q.length ≤ 60 := by omega
        clear hrx hrx2 hnx
        have HQ := Lib.hid hq
        clear hq
        go_wp2_with fail
        refine (shardT_any j sh (T2.below hbel) (by omega)).mono ?_
        rw [HQ.out]
        rintro e w4 ⟨v, rfl, hrow, hb4⟩
        obtain ⟨A4, c4, rfl, _⟩ := own_rcs hrow (fun r hr => T2.ok r (by rw [← HQ.out] at hr; exact (List.mem_filter.1 hr).1)) (by unfold maxLen; omega)
        have HB4 := hbel.trans (hb4.mono hbel.size)
        clear hrow hb4
        generalize fewer sh j L = f0 at *
        go_wp2
        go_roundw
        case rel => exact ⟨j + 1, by omega, by go_num, by rw [show ((j + 1 : Nat) : Int) = (j : Int) + 1 from by omega, HNX2.out]; go_num, HB4⟩
        case measure => simp [intOf]; omega
      · have hje : (j : Int) = sh := by omega
        rw [hje] at hrx
        rw [HRN.out] at hrx
        have hfe : fewer sh (j : Int) L = L.length := by rw [hje]; simpa using hrx
        rw [hfe]
        have hnd := need_bd sh L
        clear hrx hfw hfe hje
        have T3 := T2.below hbel
        have hbw3 := hbw2.trans (hbel.mono hbw2.size)
        clear T2 hbw2 hbel
        go_wp2_with fail
        refine (needT_any sh T3 (by omega) (by omega)).mono ?_
        rintro e w4 ⟨rfl, hb4⟩
        have T4 := T3.below hb4
        have hbw4 := hbw3.trans (hb4.mono hbw3.size)
        clear T3 hbw3 hb4
        obtain ⟨hn1, hn2, hn3⟩ := hnd
        generalize needR sh L = N at *
        go_wp2_with fail
        refine (copyT_any T4).mono ?_
        rintro e w5 ⟨g2, mm2, rfl, C5, hb5, hg2, hm2⟩
        have T5 := T4.below hb5
        have hbw5 := hbw4.trans (hb5.mono hbw4.size)
        have hTl := T4.lt
        have hTm := T4.map.lt
        have hws := hbw4.size
        clear T4 hbw4 hb5
        rw [← HRA.out] at C5
        go_wp2_with fail
        obtain ⟨w6, hw6⟩ : ∃ w6, w6 = w5 := ⟨_, rfl⟩
        subst hw6
        go_loopw [10, 11] (fun t k wr => ∃ j : Nat, (j : Int) ≤ sh ∧ k = .int .i64 j ∧ t = .int .i64 (fewer sh j L) ∧ TableAt wr g2 mm2 1 (rest sh j L) ∧ w6.grownBy wr (some mm2)) (fun _ k _ => (sh - intOf k).toNat)
        case atStart => exact ⟨0, by omega, rfl, by rw [show ((0 : Nat) : Int) = 0 from rfl, HF0.out]; rfl, C5, World.grownBy.refl _ _⟩
        case round =>
          clear C5
          obtain ⟨q, hq, rfl, rfl, C, hgr⟩ := hrel
          have hrx := HRX.out q
          have hfw : fewer sh q L ≤ 60 := by omega
          by_cases hlt : (q : Int) < sh
          · have hrx2 := HRX.out ((q : Int) + 1)
            have HST := Lib.hid (rest_next sh q L)
            have HD := Lib.hid (show ((rest sh q L).length : Int) - (rest sh ((q : Int) + 1) L).length = (fewer sh ((q : Int) + 1) L : Int) - fewer sh q L from by omega)
            have hrl : (rest sh q L).length < 1000000 := by omega
            have hfw2 : fewer sh ((q : Int) + 1) L ≤ 60 := by omega
            clear hrx hrx2
            go_wp2_with fail
            refine (clearT_any q sh C hrl).mono ?_
            rw [HST.out, HD.out]
            rintro e w7 ⟨rfl, C7, hg7⟩
            generalize fewer sh q L = f0 at *
            go_wp2
            go_roundw
            case rel => exact ⟨q + 1, by omega, by go_num, by rw [show ((q + 1 : Nat) : Int) = (q : Int) + 1 from by omega]; congr 1; omega, by rw [show ((q + 1 : Nat) : Int) = (q : Int) + 1 from by omega]; exact C7, hgr.andThen hg7 (fun j hj => by cases hj; exact Or.inr rfl)⟩
            case measure => simp [intOf]; omega
          · have hqe : (q : Int) = sh := by omega
            rw [hqe, HRN.out] at C
            rw [hqe, HRN.out] at hrx
            have hfe : fewer sh (q : Int) L = L.length := by rw [hqe]; simpa using hrx
            rw [hfe]
            clear hrx hfw hfe hqe
            have T7 := T5.grown hgr (by simp; omega) (by simp; omega)
            have hbw7 := hbw5.grown hgr hbw5.size (fun k hk => by cases hk; omega)
            clear hgr
            go_wp2_with fail
            refine (alive_any _).mono ?_
            rintro e w8 ⟨rfl, hb8⟩
            have T8 := T7.below hb8
            have C8 := C.below hb8
            have hbw8 := hbw7.trans (hb8.mono hbw7.size)
            clear T7 C hbw7 hb8 T5
            go_wp2_with (first
              | (go_at_call 21; refine (lenT_any T8).mono ?_; rintro e wq ⟨rfl, rfl⟩)
              | (go_at_call 21; refine (lenT_any C8).mono ?_; rintro e wq ⟨rfl, rfl⟩))
            go_ret
            exact ⟨rfl, hbw8⟩
end Go.Proofs.Ytdlmipoeeiaapaa
