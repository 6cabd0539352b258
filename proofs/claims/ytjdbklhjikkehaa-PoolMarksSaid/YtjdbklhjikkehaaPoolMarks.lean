/-
  PoolMarks: its walk.
-/
import Derived.Test.YtjdbklhjikkehaaPoolLaws
import Derived.Test.YtjdbklhjikkehaaPoolUsed
import Derived.Test.YtjdbklhjikkehaaPoolMark
namespace Go.Proofs.Ytjdbklhjikkehaa
open Go.RowKit Go.Maps

/-- Two pools that share nothing. -/
structure Pair (w w' : World) (g1 m1 g2 m2 : Nat) (n : Int) (us vs : List Int) : Prop where
  p1 : PoolAt w' g1 m1 0 n us
  p2 : PoolAt w' g2 m2 0 n vs
  bel : Below w.heap.size w w'
  hm1 : w.heap.size ≤ m1
  hm2 : w.heap.size ≤ m2
  ne : m1 ≠ m2
theorem pool_ne {w : World} {g m g' m' : Nat} {f n f' n' : Int} {us us' : List Int} (h : PoolAt w g m f n us) (h' : PoolAt w g' m' f' n' us') : g ≠ m' := by
  intro e
  obtain ⟨es, c, h1, _⟩ := h'.set.own
  have := h.blk
  rw [e, h1] at this; cases this
theorem Pair.below {w w' w2 : World} {g1 m1 g2 m2 : Nat} {n : Int} {us vs : List Int} (h : Pair w w' g1 m1 g2 m2 n us vs) (hb : Below w'.heap.size w' w2) : Pair w w2 g1 m1 g2 m2 n us vs :=
  ⟨h.p1.below hb, h.p2.below hb, h.bel.trans (hb.mono h.bel.size), h.hm1, h.hm2, h.ne⟩
theorem Pair.turn1 {w w' w2 : World} {g1 m1 g2 m2 : Nat} {n : Int} {us vs us2 : List Int} (h : Pair w w' g1 m1 g2 m2 n us vs) (hp : PoolAt w2 g1 m1 0 n us2) (hg : w'.grownBy w2 (some m1)) : Pair w w2 g1 m1 g2 m2 n us2 vs :=
  ⟨hp, h.p2.far hg (fun e => pool_ne h.p2 h.p1 (by injection e)) (fun e => h.ne (by injection e with e; exact e.symm)), h.bel.grown hg h.bel.size (fun k hk => by cases hk; exact h.hm1), h.hm1, h.hm2, h.ne⟩
theorem Pair.turn2 {w w' w2 : World} {g1 m1 g2 m2 : Nat} {n : Int} {us vs vs2 : List Int} (h : Pair w w' g1 m1 g2 m2 n us vs) (hp : PoolAt w2 g2 m2 0 n vs2) (hg : w'.grownBy w2 (some m2)) : Pair w w2 g1 m1 g2 m2 n us vs2 :=
  ⟨h.p1.far hg (fun e => pool_ne h.p1 h.p2 (by injection e)) (fun e => h.ne (by injection e)), hp, h.bel.grown hg h.bel.size (fun k hk => by cases hk; exact h.hm2), h.hm1, h.hm2, h.ne⟩
theorem insAll_self {us : List Int} (h : Rising us) : insAll [] us = us := rising_ext (rising_insAll (by simp [Rising])) h (fun x => by rw [mem_insAll]; simp)
theorem mark_self {n : Int} {us : List Int} (hr : Rising us) (hi : ∀ z ∈ us, 0 ≤ z ∧ z < 0 + n) : markErr 0 n [] us = 0 ∧ markTo 0 n [] us = us := by
  have := mark_ok (f := 0) (n := n) (us := []) (zs := us) (by rw [List.all_eq_true]; intro z hz; unfold inR; exact decide_eq_true (hi z hz)) (by
    unfold dupB; rw [decide_eq_false_iff_not, Decidable.not_not]; exact ⟨hr.nodup, by simp⟩)
  rw [insAll_self hr] at this; exact this
theorem mark_head {n z : Int} {us : List Int} (hi : 0 ≤ z ∧ z < 0 + n) (hz : z ∈ us) : markErr 0 n us [z] = 9 ∧ markTo 0 n us [z] = us :=
  mark_dup (by simp [inR]; omega) (dup_there (j := 0) (by simp) (.inr (by simpa using hz)))
theorem mark_out {n : Int} {us : List Int} : markErr 0 n us [n] = 15 ∧ markTo 0 n us [n] = us := mark_range (z := n) (by simp) (by simp [inR])
theorem ints_far {w w' : World} {k : IntKind} {A : Option Addr} {n : Nat} {zs : List Int} {g m : Nat} {f q : Int} {us : List Int} (h : Ints w k A n zs) (hp : PoolAt w g m f q us) (hg : w.grownBy w' (some m)) : Ints w' k A n zs := ints_grown h hp hg
theorem handed0 (n : Int) (us : List Int) : (∀ z ∈ (takeOut 0 n us 3).1, 0 ≤ z ∧ z < 4200 + n ∧ z ≤ max 0 n) ∧ (takeOut 0 n us 3).1.length ≤ 3 := by
  unfold takeOut
  rw [if_neg (by omega)]
  by_cases h : n - us.length < 3
  · rw [if_pos h]; simp
  · rw [if_neg h]
    refine ⟨fun z hz => ?_, by simp; omega⟩
    obtain ⟨h1, h2, _⟩ := mem_freeIn.1 (List.mem_of_mem_take hz)
    exact ⟨h1, by omega, by omega⟩
set_option maxRecDepth 100000 in
set_option maxHeartbeats 8000000 in
theorem walk_poolMarks {w : World} (n : Int) (_hn : (Lit.int .i64 n).wf = true) (A : Option Addr) (len cap : Nat) (ks : List Int) (hk : Ints w .i64 A len ks) (B : Option Addr) (len2 cap2 : Nat) (gs : List Int) (hg : Ints w .i64 B len2 gs) :
    Calls Try.prog 4 #[.int .i64 n, .slice A len cap, .slice B len2 cap2] w fun e w' => e = .returned (.bool true) ∧ Below w.heap.size w w' := by
  have hl := hk.n_le
  have hl2 := hg.n_le
  unfold maxLen at hl hl2
  by_cases h1 : n < 0
  · go_enter Try.func4, Try.ntmps4
    go_wp2_with fail
    refine (alive_any _).mono ?_
    rintro e w1 ⟨rfl, hb⟩
    go_wp2_with fail
    go_ret
    exact ⟨rfl, hb⟩
  by_cases h2 : 60 < n
  · go_enter Try.func4, Try.ntmps4
    go_wp2_with fail
    refine (alive_any _).mono ?_
    rintro e w1 ⟨rfl, hb⟩
    go_wp2_with fail
    go_ret
    exact ⟨rfl, hb⟩
  by_cases h3 : 20 < len
  · go_enter Try.func4, Try.ntmps4
    go_wp2_with fail
    refine (alive_any _).mono ?_
    rintro e w1 ⟨rfl, hb⟩
    go_wp2_with fail
    go_ret
    exact ⟨rfl, hb⟩
  by_cases h4 : 60 < len2
  · go_enter Try.func4, Try.ntmps4
    go_wp2_with fail
    refine (alive_any _).mono ?_
    rintro e w1 ⟨rfl, hb⟩
    go_wp2_with fail
    go_ret
    exact ⟨rfl, hb⟩
  have HL := Lib.hid hk.len
  go_enter Try.func4, Try.ntmps4
  go_wp2_with fail
  refine (new_any _ _ _ (by omega)).mono ?_
  rintro e w1 ⟨g1, m1, f, k, rfl, hp1, hb1, hg1, hm1, hf, hk'⟩
  have hf' : f = 0 := by omega
  have hk'' : k = n := by rw [hk', if_neg (by omega)]; omega
  subst hf' hk''
  clear hf hk'
  go_wp2_with fail
  refine (new_any _ _ _ (by omega)).mono ?_
  rintro e w2 ⟨g2, m2, f, k', rfl, hp2, hb2, hg2, hm2, hf, hk'⟩
  have hf' : f = 0 := by omega
  have hk'' : k' = k := by rw [hk', if_neg (by omega)]; omega
  subst hf' hk''
  clear hf hk'
  have G0 : Pair w w2 g1 m1 g2 m2 k' [] [] := ⟨hp1.below hb2, hp2, hb1.trans (hb2.mono hb1.size), hm1, Nat.le_trans hb1.size hm2, by have := hp1.set.lt; omega⟩
  clear hp1 hp2 hb1 hb2 hg1 hm1 hg2 hm2
  go_wp2_with fail
  go_loopw [9] (fun i wr => ∃ (j : Nat) (us : List Int), j ≤ len ∧ i = .int .i64 j ∧ Pair w wr g1 m1 g2 m2 k' us []) (fun i _ => len - (intOf i).toNat)
  case atStart => exact ⟨0, [], Nat.zero_le _, rfl, G0⟩
  case round =>
    clear G0
    obtain ⟨j, us, hj, rfl, G⟩ := hrel
    by_cases hlt : j < len
    · have K : j < ks.length := by rw [HL.out]; exact hlt
      obtain ⟨b, off, rfl, hb, hc⟩ := (hk.below G.bel).get K
      obtain ⟨a1, a2⟩ := and7 ks[j]
      go_wp2_with fail
      generalize bits BinOp.and IntKind.i64 ks[j] 7 = q at *
      refine (take_any g1 m1 0 k' us q wr G.p1 (by omega)).mono ?_
      rintro e w3 ⟨v, rfl, hown, hp3, hg3⟩
      have G3 := G.turn1 hp3 hg3
      clear hown hg3 hp3
      go_wp2
      go_roundw
      case rel => exact ⟨j + 1, _, by omega, by go_num, G3⟩
      case measure => simp [intOf]; omega
    · have hd : decide ((j : Int) < (len : Int)) = false := by simp; omega
      go_wp2_with fail
      refine (give_any g1 m1 0 k' us B len2 cap2 gs wr G.p1 (hg.below G.bel)).mono ?_
      rintro e w3 ⟨rfl, hp3, hg3⟩
      have G3 := G.turn1 hp3 hg3
      clear hp3 hg3 G
      generalize (giveAll us gs).1 = us2 at *
      generalize (giveAll us gs).2 = cnt at *
      go_wp2_with fail
      refine (used_any g1 m1 0 k' us2 w3 G3.p1).mono ?_
      rintro e w4 ⟨v4, rfl, hown4, hb4⟩
      have G4 := G3.below hb4
      have hsz := G4.p1.size_le
      obtain ⟨A4, c4, rfl, hi4⟩ := own_ints' hown4 (fun z hz => by have := G4.p1.ins z hz; exact wf_small (by omega)) (by unfold maxLen; omega)
      clear hown4 G3 hb4
      have HMS := Lib.hid (mark_self G4.p1.set.rising G4.p1.ins)
      go_wp2_with fail
      refine (mark_any g2 m2 0 k' [] A4 us2.length c4 us2 w4 G4.p2 hi4).mono ?_
      rintro e w5 ⟨rfl, hp5, hg5⟩
      rw [HMS.out.1]
      rw [HMS.out.2] at hp5
      have G5 := G4.turn2 hp5 hg5
      have hi5 := ints_grown hi4 G4.p2 hg5
      clear hp5 hg5 hi4
      have HOUT := Lib.hid (fun (W : World) => mark_out (n := k') (us := insAll us2 (takeOut 0 k' us2 3).1))
      have HD := handed0 k' us2
      by_cases h0 : us2.length = 0
      case' pos =>
        have h0' : decide ((0 : Int) < (us2.length : Int)) = false := decide_eq_false (by omega)
        have h0'' : ¬ 0 < us2.length := by omega
        clear h0
        go_wp2_with fail
        have G6 := G5
      case' neg =>
        have h0' : 0 < us2.length := by omega
        obtain ⟨b, off, rfl, hb, hc⟩ := hi5.get h0'
        rw [Nat.add_zero] at hc
        have hz := G5.p1.ins _ (List.getElem_mem h0')
        have HH := Lib.hid (mark_head hz (List.getElem_mem h0'))
        have hwf := hi5.wf _ (List.getElem_mem h0')
        generalize us2[0]'h0' = z at *
        have GA := G5.below ((Below.refl _ _).alloc (Nat.le_refl _) (.cells #[.int .i64 z] 3))
        clear h0
        go_wp2_with fail
        refine (mark_any g2 m2 0 k' us2 _ 1 1 [z] _ GA.p2 (Ints.new _ _ _ _ _ _ _ rfl rfl rfl (by decide) (by simpa using hwf))).mono ?_
        rintro e w6 ⟨rfl, hp6, hg6⟩
        rw [HH.out.1]
        rw [HH.out.2] at hp6
        have G6 := GA.turn2 hp6 hg6
        clear hp6 hg6 GA hc hz hwf
        go_wp2_with fail
      all_goals
        clear hi5 G5 HMS
        refine (take_any g1 m1 0 k' us2 3 _ G6.p1 (by omega)).mono ?_
        rintro e w7 ⟨va, rfl, hown7, hp7, hg7⟩
        have G7 := G6.turn1 hp7 hg7
        go_wp2_with fail
        refine (take_any g2 m2 0 k' us2 3 _ G7.p2 (by omega)).mono ?_
        rintro e w8 ⟨vb, rfl, hown8, hp8, hg8⟩
        have G8 := G7.turn2 hp8 hg8
        generalize takeOut 0 k' us2 3 = O at *
        obtain ⟨A7, c7, rfl, hi7⟩ := own_ints' hown7 (fun z hz => by have := HD.1 z hz; exact wf_small (by omega)) (by have := HD.2; unfold maxLen; omega)
        obtain ⟨A8, c8, rfl, hi8⟩ := own_ints' hown8 (fun z hz => by have := HD.1 z hz; exact wf_small (by omega)) (by have := HD.2; unfold maxLen; omega)
        have hi7b := ints_grown hi7 G7.p2 hg8
        have hlen := HD.2
        clear hown7 hown8 hp7 hp8 hg7 hg8 hi7 G6 G7 HD
        obtain ⟨p, hp⟩ : ∃ p, p = O.1.length := ⟨_, rfl⟩
        rw [← hp] at hi7b hi8 hlen
        rw [← hp]
        have HP := Lib.hid hp
        clear hp
        go_wp2_with fail
        go_loopw [15] (fun i wr => ∃ t : Nat, t ≤ p ∧ i = .int .i64 t ∧ Below w8.heap.size w8 wr) (fun i _ => p - (intOf i).toNat)
        case atStart => exact ⟨0, Nat.zero_le _, rfl, Below.refl _ _⟩
        case round =>
          obtain ⟨t, ht, rfl, hbel⟩ := hrel
          by_cases htp : t < p
          · have K2 : t < O.1.length := by rw [← HP.out]; exact htp
            obtain ⟨b7, off7, rfl, hb7, hc7⟩ := (hi7b.below hbel).get K2
            obtain ⟨b8, off8, rfl, hb8, hc8⟩ := (hi8.below hbel).get K2
            generalize O.1[t]'K2 = z at *
            have q0 : (0 : Int) ≤ (t : Int) := by omega
            have q1 : (t : Int) < (p : Int) := by omega
            go_wp2
            go_quiet (fail)
            go_wp2
            go_roundw
            case rel => exact ⟨t + 1, by omega, by go_num, below_drewN hbel _⟩
            case measure => simp [intOf]; omega
          · have hdt : decide ((t : Int) < (p : Int)) = false := by simp; omega
            have G9 := G8.below hbel
            go_wp2_with fail
            refine (alive_any _).mono ?_
            rintro e w10 ⟨rfl, hb10⟩
            have G10 := G9.below hb10
            have GA := G10.below ((Below.refl _ _).alloc (Nat.le_refl _) (.cells #[.int .i64 k'] 3))
            go_wp2_with fail
            refine (mark_any g2 m2 0 k' _ _ 1 1 [k'] _ GA.p2 (Ints.new _ _ _ _ _ _ _ rfl rfl rfl (by decide) (by intro z hz; simp at hz; exact wf_small (by omega)))).mono ?_
            rintro e w11 ⟨rfl, hp11, hg11⟩
            rw [(HOUT.out w).1]
            rw [(HOUT.out w).2] at hp11
            have G11 := GA.turn2 hp11 hg11
            clear GA G10 G9 hp11 hg11
            go_wp2_with fail
            refine (free_any g1 m1 0 k' _ _ G11.p1).mono ?_
            rintro e w12 ⟨rfl, hb12⟩
            have G12 := G11.below hb12
            go_wp2_with fail
            refine (free_any g2 m2 0 k' _ _ G12.p2).mono ?_
            rintro e w13 ⟨rfl, hb13⟩
            have G13 := G12.below hb13
            go_wp2_with fail
            go_ret
            exact ⟨rfl, G13.bel⟩
end Go.Proofs.Ytjdbklhjikkehaa
