/-
  NameOnce: its walk.
-/
import Derived.Test.YtcepghlfbhfdnaaOrderLaws
import Derived.Test.YtcepghlfbhfdnaaSameTexts
import Derived.Test.YtcepghlfbhfdnaaShort
import Derived.Test.YtcepghlfbhfdnaaAlive5
namespace Go.Proofs.Ytcepghlfbhfdnaa
open Go.RowKit Go.Sort

/-- The texts in order, as texts. -/
def ordB (ss : List ByteArray) : List ByteArray := (orderS ss).map fun l => ⟨l.toArray⟩
theorem txt_ordB (ss : List ByteArray) : txt (ordB ss) = orderS ss := by
  unfold txt ordB
  rw [List.map_map]
  conv => rhs; rw [← List.map_id (orderS ss)]
  apply List.map_congr_left
  intro x _
  simp
theorem map_ordB (ss : List ByteArray) : (ordB ss).map Value.string = (orderS ss).map encStr := by unfold ordB; rw [List.map_map]; rfl
theorem size_ordB {ss : List ByteArray} (h : ∀ s ∈ ss, s.size ≤ maxLen) : ∀ s ∈ ordB ss, s.size ≤ maxLen := by
  intro s hs
  have h1 : s.toList ∈ txt (ordB ss) := List.mem_map.2 ⟨s, hs, rfl⟩
  rw [txt_ordB, (order_both ss).2] at h1
  obtain ⟨x, hx, e⟩ := List.mem_map.1 h1
  have := h x hx
  rw [← len_toList, ← e, len_toList]; exact this
theorem len_ordB (ss : List ByteArray) : (ordB ss).length = (orderS ss).length := by simp [ordB]
theorem ord_strs {w : World} {base : Nat} {v : Value} {ss : List ByteArray} (h : w.ownsRow base 9 1 v (orderS ss).length ((orderS ss).map encStr)) (hs : ∀ s ∈ ss, s.size ≤ maxLen) (hl : ss.length ≤ maxLen) :
    ∃ A c, v = .slice A (ordB ss).length c ∧ Strs w A (ordB ss).length (ordB ss) := by
  have hle := order_len ss
  rcases h.2 with ⟨rfl, he⟩ | ⟨g, cap, cur, rfl, _, hg, _, _, _, _⟩
  · have h0 : (ordB ss).length = 0 := by rw [len_ordB]; have := h.1; simp_all
    refine ⟨none, 0, by rw [h0], ⟨?_, rfl, by omega, size_ordB hs⟩⟩
    rw [List.eq_nil_of_length_eq_zero h0]; exact Sl.nil _ _
  · refine ⟨some ⟨g, 0, none⟩, cap, by rw [len_ordB], ⟨⟨fun _ => ⟨g, 0, rfl, lt_of_block hg, fun j u hu => ?_⟩⟩, rfl, by rw [len_ordB]; omega, size_ordB hs⟩⟩
    rw [map_ordB] at hu
    have hj : j < (orderS ss).length := by have := (List.getElem?_eq_some_iff.1 hu).1; simpa using this
    rw [Nat.zero_add, h.cellAt j (by omega)]
    exact hu
theorem ord_rises (ss : List ByteArray) (j : Nat) (h1 : j < (ordB ss).length) (h2 : j + 1 < (ordB ss).length) : Op.bytesLess (ordB ss)[j].toList (ordB ss)[j + 1].toList = true := by
  have hr := (order_both ss).1
  rw [← txt_ordB] at hr
  have := List.pairwise_iff_getElem.1 hr j (j + 1) (by simpa [txt] using h1) (by simpa [txt] using h2) (by omega)
  simpa [txt] using this
theorem ord_there (ss : List ByteArray) (i : Nat) (h : i < ss.length) : decide (ss[i].toList ∈ txt (ordB ss)) = true := by
  rw [decide_eq_true_iff, txt_ordB, (order_both ss).2]
  exact List.mem_map.2 ⟨ss[i], List.getElem_mem h, rfl⟩
theorem mem_next (ts : List ByteArray) (x : List UInt8) (k : Nat) (h : k < ts.length) : decide (x ∈ txt (ts.take (k + 1))) = (decide (x ∈ txt (ts.take k)) || (ts[k].toList == x)) := by
  rw [take_next ts k h]
  unfold txt
  rw [List.map_append, Bool.eq_iff_iff]
  simp
  constructor <;> (rintro (h | h) <;> simp [h])
set_option maxRecDepth 100000 in
set_option maxHeartbeats 4000000 in
theorem walk_nameOnce {w : World} (A : Option Addr) (n cap : Nat) (ss : List ByteArray) (hs : Strs w A n ss) :
    Calls Try.prog 7 #[.slice A n cap] w fun e w' => e = .returned (.bool true) ∧ Below w.heap.size w w' := by
  go_enter Try.func7, Try.ntmps7
  go_wp2_with fail
  refine (short_any _ _ _ _ _ _ _ hs (by omega)).mono ?_
  rintro e w1 ⟨b, rfl, hsh, hb1⟩
  cases b
  · clear hsh
    go_wp2_with fail
    refine (alive_any _).mono ?_
    rintro e w2 ⟨rfl, hb2⟩
    go_wp2_with fail
    go_ret
    exact ⟨rfl, hb1.trans (hb2.mono hb1.size)⟩
  · obtain ⟨h40, _⟩ := hsh rfl
    clear hsh
    have hn40 : n ≤ 40 := by omega
    clear h40
    go_wp2_with fail
    refine (order_any A n cap ss w1 (hs.below hb1) (by omega)).mono ?_
    rintro e w2 ⟨v, rfl, hown, hb2⟩
    have hb2' := hb1.trans (hb2.mono hb1.size)
    obtain ⟨A2, c2, rfl, hts⟩ := ord_strs hown hs.size (by rw [hs.len]; exact hs.n_le)
    have HL := Lib.hid hs.len
    have hle : (ordB ss).length ≤ n := by rw [len_ordB, ← HL.out]; exact order_len ss
    obtain ⟨m, hm⟩ : ∃ m, m = (ordB ss).length := ⟨_, rfl⟩
    have HM := Lib.hid hm
    rw [← hm] at hts hle
    rw [← hm]
    clear hm hown hb2
    go_wp2_with fail
    go_loopw [4] (fun i wr => ∃ j : Nat, (j + 1 ≤ m ∨ j = 0) ∧ i = .int .i64 ((j : Int) + 1) ∧ Below w2.heap.size w2 wr) (fun i _ => m + 1 - (intOf i).toNat)
    case atStart => exact ⟨0, .inr rfl, rfl, Below.refl _ _⟩
    case round =>
      obtain ⟨j, hj, rfl, hbel⟩ := hrel
      by_cases hlt : j + 1 < m
      · obtain ⟨b, off, rfl, hb, hc⟩ := (hts.below hbel).sl.at_ (fun e => by have := congrArg List.length e; simp [← HM.out] at this; omega)
        have K1 : j < (ordB ss).length := by rw [← HM.out]; omega
        have K2 : j + 1 < (ordB ss).length := by rw [← HM.out]; omega
        have c1 := hc j (.string (ordB ss)[j]) (by rw [List.getElem?_map, List.getElem?_eq_getElem K1]; rfl)
        have c2 := hc (j + 1) (.string (ordB ss)[j + 1]) (by rw [List.getElem?_map, List.getElem?_eq_getElem K2]; rfl)
        have hr := ord_rises ss j K1 K2
        clear hc hj
        generalize (ordB ss)[j]'K1 = x1 at *
        generalize (ordB ss)[j + 1]'K2 = x2 at *
        have h0 : (0 : Int) ≤ (j : Int) := by omega
        have h1 : (j : Int) < (m : Int) := by omega
        have h2 : (j : Int) + 1 < (m : Int) := by omega
        go_wp2
        go_quiet (fail)
        go_wp2
        go_roundw
        case rel => exact ⟨j + 1, .inl (by omega), by go_num, below_drewN hbel _⟩
        case measure => simp [intOf]; omega
      · have hd : decide ((j : Int) + 1 < (m : Int)) = false := by simp; omega
        go_wp2
        have hbw := hb2'.trans (hbel.mono hb2'.size)
        obtain ⟨w3, hw3⟩ : ∃ w3, w3 = wr := ⟨_, rfl⟩
        subst hw3
        have hb23 := hbel
        clear hbel
        go_loopw [5] (fun i wr => ∃ k : Nat, k ≤ n ∧ i = .int .i64 k ∧ Below w3.heap.size w3 wr) (fun i _ => n - (intOf i).toNat)
        case atStart => exact ⟨0, Nat.zero_le _, rfl, Below.refl _ _⟩
        case round =>
          obtain ⟨k, hk, rfl, hbel⟩ := hrel
          by_cases hkn : k < n
          · have KS : k < ss.length := by rw [HL.out]; exact hkn
            have HTH := Lib.hid (ord_there ss k KS)
            have hb4 := hbw.trans (hbel.mono hbw.size)
            go_wp2
            obtain ⟨w4, hw4⟩ : ∃ w4, w4 = wr := ⟨_, rfl⟩
            subst hw4
            go_loopw [6, 7] (fun th i wr => ∃ q : Nat, q ≤ m ∧ i = .int .i64 q ∧ th = .bool (decide (ss[k].toList ∈ txt ((ordB ss).take q))) ∧ Below w4.heap.size w4 wr) (fun _ i _ => m - (intOf i).toNat)
            case atStart => exact ⟨0, Nat.zero_le _, rfl, rfl, Below.refl _ _⟩
            case round =>
              obtain ⟨q, hq, rfl, rfl, hbel4⟩ := hrel
              have hb5 := hb4.trans (hbel4.mono hb4.size)
              have hb6 := hbel.trans (hbel4.mono hbel.size)
              have hb7 := hb23.trans (hb6.mono hb23.size)
              by_cases hqm : q < m
              · have K2 : q < (ordB ss).length := by rw [← HM.out]; exact hqm
                obtain ⟨b, off, rfl, hb, hc⟩ := (hs.below hb5).get KS
                obtain ⟨b2, off2, rfl, hb2, hc2⟩ := (hts.below hb7).get K2
                have HX := Lib.hid (mem_next (ordB ss) ss[k].toList q K2)
                have g0 : (0 : Int) ≤ (q : Int) := by omega
                have g1 : (q : Int) < (m : Int) := by omega
                have g2 : (0 : Int) ≤ (k : Int) := by omega
                have g3 : (k : Int) < (n : Int) := by omega
                cases hth : decide (ss[k].toList ∈ txt ((ordB ss).take q))
                · rw [hth] at HX
                  clear hth
                  go_wp2
                  go_quiet (fail)
                  go_wp2
                  go_roundw
                  case rel => exact ⟨q + 1, by omega, by go_num, by rw [HX.out]; rfl, below_drewN hbel4 _⟩
                  case measure => simp [intOf]; omega
                · rw [hth] at HX
                  clear hth
                  go_wp2
                  go_quiet (fail)
                  go_wp2
                  go_roundw
                  case rel => exact ⟨q + 1, by omega, by go_num, by rw [HX.out]; rfl, below_drewN hbel4 _⟩
                  case measure => simp [intOf]; omega
              · have hqe : q = m := by omega
                subst hqe
                rw [List.take_of_length_le (by rw [← HM.out]; omega), HTH.out]
                go_wp2
                go_roundw
                case rel => exact ⟨k + 1, by omega, by go_num, hb6⟩
                case measure => simp [intOf]; omega
          · have hd2 : decide ((k : Int) < (n : Int)) = false := by simp; omega
            have hb4 := hbw.trans (hbel.mono hbw.size)
            have hb24 := hb23.trans (hbel.mono hb23.size)
            go_wp2_with fail
            refine (alive_any _).mono ?_
            rintro e w5 ⟨rfl, hb5⟩
            have hb6 := hb4.trans (hb5.mono hb4.size)
            have hb25 := hb24.trans (hb5.mono hb24.size)
            go_wp2_with fail
            refine (order_any A2 m c2 (ordB ss) w5 (hts.below hb25) (by omega)).mono ?_
            rintro e w6 ⟨v, rfl, hown6, hb67⟩
            obtain ⟨A3, c3, rfl, hts3⟩ := ord_strs hown6 (size_ordB hs.size) (by rw [← HM.out]; unfold maxLen; omega)
            have hb26 := hb25.trans (hb67.mono hb25.size)
            have hb7 := hb6.trans (hb67.mono hb6.size)
            have he : decide (txt (ordB (ordB ss)) = txt (ordB ss)) = true := by
              rw [decide_eq_true_iff, txt_ordB, txt_ordB]; exact order_again ss (ordB ss) (txt_ordB ss)
            have HE := Lib.hid he
            clear he hown6
            have hle' : (m : Int) ≤ (n : Int) := by omega
            go_wp2_with fail
            refine (sameTexts_any _ _ _ _ _ _ _ _ _ hts3 (hts.below hb26)).mono ?_
            rintro e w8 ⟨rfl, hb8⟩
            rw [HE.out]
            go_wp2_with fail
            go_ret
            exact ⟨rfl, hb7.trans (hb8.mono hb7.size)⟩
end Go.Proofs.Ytcepghlfbhfdnaa
