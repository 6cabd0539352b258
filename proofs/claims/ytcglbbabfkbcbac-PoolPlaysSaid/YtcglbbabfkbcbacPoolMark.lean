/-
  pool: Mark.
-/
import Derived.Test.YtcglbbabfkbcbacPoolGive
import Derived.Test.YtcglbbabfkbcbacPoolIs
import Derived.OpenShut
namespace Go.Proofs.Ytcglbbabfkbcbac
open Go.RowKit Go.Maps

def inR (f n z : Int) : Bool := decide (f ≤ z ∧ z < f + n)
/-- Is there one that is used, or that stands twice? -/
def dupB (us zs : List Int) : Bool := decide (¬ (zs.Nodup ∧ ∀ z ∈ zs, z ∉ us))
def markErr (f n : Int) (us zs : List Int) : Int := if zs.all (inR f n) = true then (if dupB us zs = true then 9 else 0) else 15
/-- What is used behind it. -/
def markTo (f n : Int) (us zs : List Int) : List Int := if markErr f n us zs = 0 then insAll us zs else us
theorem mark_range {f n : Int} {us zs : List Int} {z : Int} (h : z ∈ zs) (hz : inR f n z = false) : markErr f n us zs = 15 ∧ markTo f n us zs = us := by
  have h1 : markErr f n us zs = 15 := by
    unfold markErr
    rw [if_neg]
    intro ha
    rw [List.all_eq_true] at ha
    have := ha z h
    rw [hz] at this; cases this
  exact ⟨h1, by unfold markTo; rw [h1]; rfl⟩
theorem mark_dup {f n : Int} {us zs : List Int} (ha : zs.all (inR f n) = true) (hd : dupB us zs = true) : markErr f n us zs = 9 ∧ markTo f n us zs = us := by
  have h1 : markErr f n us zs = 9 := by unfold markErr; rw [if_pos ha, if_pos hd]
  exact ⟨h1, by unfold markTo; rw [h1]; rfl⟩
theorem mark_ok {f n : Int} {us zs : List Int} (ha : zs.all (inR f n) = true) (hd : dupB us zs = false) : markErr f n us zs = 0 ∧ markTo f n us zs = insAll us zs := by
  have h1 : markErr f n us zs = 0 := by unfold markErr; rw [if_pos ha, if_neg (by rw [hd]; decide)]
  exact ⟨h1, by unfold markTo; rw [h1]; rfl⟩
theorem dup_next {us zs : List Int} {j : Nat} (h : j < zs.length) (hd : dupB us (zs.take j) = false) (h1 : zs[j] ∉ zs.take j) (h2 : zs[j] ∉ us) : dupB us (zs.take (j + 1)) = false := by
  unfold dupB at *
  rw [decide_eq_false_iff_not, Decidable.not_not] at *
  rw [List.take_succ_eq_append_getElem h]
  refine ⟨List.nodup_append.2 ⟨hd.1, by simp, fun a ha b hb => ?_⟩, fun z hz => ?_⟩
  · simp at hb; subst hb; rintro rfl; exact h1 ha
  · rcases List.mem_append.1 hz with hz | hz
    · exact hd.2 z hz
    · simp at hz; subst hz; exact h2
theorem dup_there {us zs : List Int} {j : Nat} (h : j < zs.length) (h1 : zs[j] ∈ zs.take j ∨ zs[j] ∈ us) : dupB us zs = true := by
  unfold dupB
  rw [decide_eq_true_iff]
  rintro ⟨hn, hu⟩
  rcases h1 with h1 | h1
  · obtain ⟨i, hi, e⟩ := List.getElem_of_mem h1
    have hi' : i < j := by have := hi; rw [List.length_take] at this; omega
    rw [List.getElem_take] at e
    exact (List.pairwise_iff_getElem.1 hn) i j (by omega) h hi' e
  · exact hu _ (List.getElem_mem h) h1
theorem all_take_next (p : Int → Bool) (zs : List Int) (j : Nat) (h : j < zs.length) : (zs.take (j + 1)).all p = ((zs.take j).all p && p zs[j]) := by
  rw [List.take_succ_eq_append_getElem h, List.all_append]; simp
theorem length_ins_le (z : Int) : ∀ l : List Int, (ins z l).length ≤ l.length + 1
  | [] => by simp [ins]
  | y :: r => by
    unfold ins
    by_cases h1 : z < y
    · rw [if_pos h1]; simp
    · rw [if_neg h1]
      by_cases h2 : z = y
      · rw [if_pos h2]; simp
      · rw [if_neg h2]; have := length_ins_le z r; simp; omega
theorem length_insAll_le : ∀ (zs us : List Int), (insAll us zs).length ≤ us.length + zs.length
  | [], us => by simp [insAll]
  | z :: r, us => by
    have h1 := length_insAll_le r (ins z us)
    have h2 := length_ins_le z us
    have e : insAll us (z :: r) = insAll (ins z us) r := rfl
    rw [e]; simp only [List.length_cons]; omega
theorem not_seen {zs : List Int} {z : Int} (h : z ∉ zs) : decide (z ∈ insAll [] zs) = false := by
  rw [decide_eq_false_iff_not, mem_insAll]; simpa using h
theorem dup_nil (us : List Int) : dupB us [] = false := by simp [dupB]
set_option maxRecDepth 100000 in
set_option maxHeartbeats 4000000 in
theorem mark_any (g m : Nat) (f n : Int) (us : List Int) (A : Option Addr) (k c : Nat) (zs : List Int) (w : World) (h : PoolAt w g m f n us) (hz : Ints w .i64 A k zs) :
    Calls Try.prog 12 #[.pointer (some ⟨g, 0, none⟩), .slice A k c] w fun e w' => e = .returned (.int .i64 (markErr f n us zs)) ∧ PoolAt w' g m f n (markTo f n us zs) ∧ w.grownBy w' (some m) := by
  have hn := hz.n_le
  have HL := Lib.hid hz.len
  unfold maxLen at hn
  have hmm := @run_makeMap Try.prog
  go_enter Try.func12, Try.ntmps12
  go_wp2
  go_loopw [14] (fun i wr => ∃ j : Nat, j ≤ k ∧ i = .int .i64 j ∧ (zs.take j).all (inR f n) = true ∧ Below w.heap.size w wr) (fun i _ => k - (intOf i).toNat)
  case atStart => exact ⟨0, Nat.zero_le _, rfl, rfl, Below.refl _ _⟩
  case round =>
    obtain ⟨j, hj, rfl, hall, hbel⟩ := hrel
    have HA := Lib.hid hall
    clear hall
    by_cases hlt : j < k
    · have K : j < zs.length := by rw [HL.out]; exact hlt
      obtain ⟨b, off, rfl, hb, hc⟩ := (hz.below hbel).get K
      have hwf := hz.wf _ (List.getElem_mem K)
      have hmem : zs[j] ∈ zs := List.getElem_mem K
      have HX := Lib.hid (all_take_next (inR f n) zs j K)
      generalize zs[j]'K = z at *
      obtain ⟨hbd1, hbd2⟩ := bounds_i64 hwf
      cases hi : inR f n z
      · have HM := Lib.hid (mark_range (us := us) hmem hi).1
        have HM2 := Lib.hid (mark_range (us := us) hmem hi).2
        unfold inR at hi
        have HI := Lib.hid hi
        clear hi hmem
        go_wp2_with fail
        refine (is_any g m f n us z wr (h.below hbel) ⟨hbd1, hbd2⟩).mono ?_
        rintro e w2 ⟨rfl, hb2⟩
        rw [HI.out]
        go_wp2_with fail
        go_ret
        exact ⟨ret_int HM.out.symm, by rw [HM2.out]; exact h.below (hbel.trans (hb2.mono hbel.size)), grown_of_below (hbel.trans (hb2.mono hbel.size)) _⟩
      · rw [hi, HA.out] at HX
        unfold inR at hi
        have HI := Lib.hid hi
        clear hi hmem
        go_wp2_with fail
        refine (is_any g m f n us z wr (h.below hbel) ⟨hbd1, hbd2⟩).mono ?_
        rintro e w2 ⟨rfl, hb2⟩
        rw [HI.out]
        go_wp2_with fail
        go_roundw
        case rel => exact ⟨j + 1, by omega, by go_num, by rw [HX.out]; rfl, hbel.trans (hb2.mono hbel.size)⟩
        case measure => simp [intOf]; omega
    · have hd : decide ((j : Int) < (k : Int)) = false := by simp; omega
      have HALL := Lib.hid (show zs.all (inR f n) = true from by have := HA.out; rwa [List.take_of_length_le (by rw [HL.out]; omega)] at this)
      clear HA
      go_wp2_with fail
      obtain ⟨wo, hwo⟩ : ∃ wo, wo = wr := ⟨_, rfl⟩
      subst hwo
      have hb0 : wo.heap.size < (wo.alloc (.map #[] 0)).heap.size := by simp
      have hbel1 := hbel.alloc hbel.size (.map #[] 0)
      have hset : SetAt (wo.alloc (.map #[] 0)) wo.heap.size [] := SetAt.new wo
      obtain ⟨sm, hsm⟩ : ∃ sm, sm = wo.heap.size := ⟨_, rfl⟩
      rw [← hsm] at hset
      rw [← hsm]
      have hsmw : w.heap.size ≤ sm := by rw [hsm]; exact hbel.size
      clear hsm hb0
      go_loopw [26] (fun i wr => ∃ j : Nat, j ≤ k ∧ i = .int .i64 j ∧ dupB us (zs.take j) = false ∧ SetAt wr sm (insAll [] (zs.take j)) ∧ Below w.heap.size w wr) (fun i _ => k - (intOf i).toNat)
      case atStart => exact ⟨0, Nat.zero_le _, rfl, dup_nil us, hset, hbel1⟩
      case round =>
        clear hset hbel1 hlt hd hbel hj
        obtain ⟨j, hj, rfl, hdup, hs, hbel⟩ := hrel
        have HD := Lib.hid hdup
        clear hdup
        by_cases hlt : j < k
        · have K : j < zs.length := by rw [HL.out]; exact hlt
          obtain ⟨b, off, rfl, hb, hc⟩ := (hz.below hbel).get K
          have hwf := hz.wf _ (List.getElem_mem K)
          have hp := h.below hbel
          have hlen := length_insAll_le (zs.take j) []
          rw [List.length_take] at hlen
          have hlen2 : (insAll [] (zs.take j)).length ≤ j := by simp at hlen; omega
          clear hlen
          by_cases h1 : zs[j] ∈ zs.take j
          · have HM := Lib.hid (mark_dup HALL.out (dup_there (us := us) K (.inl h1)))
            have HI := Lib.hid (decide_eq_true (show zs[j] ∈ insAll [] (zs.take j) from mem_insAll.2 (.inr h1)))
            clear h1
            go_wp2_with (at_lookup; refine wpList_lookup_own_unit _ rfl _ _ 28 rfl 3 58 int_law Try.underlying28 (zero_unit _) sm _ (setD (insAll [] (zs.take j))) rfl hs.own _ _ rfl (keyOf_int_mk Try.underlying3 hwf) ?_; rw [has_setD, HI.out])
            go_wp2
            go_ret
            have hbw := hbel.alloc hbel.size (.cells #[] 58)
            exact ⟨ret_int HM.out.1.symm, by rw [HM.out.2]; exact h.below hbw, grown_of_below hbw _⟩
          · have HI := Lib.hid (not_seen h1)
            have hbw := hbel.alloc hbel.size (.cells #[] 58)
            have hpw := h.below hbw
            have hsw := hs.alloc (.cells #[] 58)
            by_cases h2 : zs[j] ∈ us
            · have HM := Lib.hid (mark_dup HALL.out (dup_there (us := us) K (.inr h2)))
              have HU := Lib.hid (decide_eq_true h2)
              clear h1 h2
              go_wp2_with (at_lookup; refine wpList_lookup_own_unit _ rfl _ _ 28 rfl 3 58 int_law Try.underlying28 (zero_unit _) sm _ (setD (insAll [] (zs.take j))) rfl hs.own _ _ rfl (keyOf_int_mk Try.underlying3 hwf) ?_; rw [has_setD, HI.out])
              go_wp2_with fail
              refine (has_any g m f n us zs[j] _ hpw hwf).mono ?_
              rintro e w2 ⟨rfl, hb2⟩
              rw [HU.out]
              go_wp2_with fail
              go_ret
              have hb3 := hbw.trans (hb2.mono hbw.size)
              exact ⟨ret_int HM.out.1.symm, by rw [HM.out.2]; exact h.below hb3, grown_of_below hb3 _⟩
            · have HN := Lib.hid (dup_next K HD.out h1 h2)
              have HU := Lib.hid (decide_eq_false h2)
              have HX := Lib.hid (show insAll [] (zs.take (j + 1)) = ins zs[j] (insAll [] (zs.take j)) from by rw [List.take_succ_eq_append_getElem K, insAll_snoc])
              clear h1 h2
              go_wp2_with (at_lookup; refine wpList_lookup_own_unit _ rfl _ _ 28 rfl 3 58 int_law Try.underlying28 (zero_unit _) sm _ (setD (insAll [] (zs.take j))) rfl hs.own _ _ rfl (keyOf_int_mk Try.underlying3 hwf) ?_; rw [has_setD, HI.out])
              go_wp2_with fail
              refine (has_any g m f n us zs[j] _ hpw hwf).mono ?_
              rintro e w2 ⟨rfl, hb2⟩
              rw [HU.out]
              have hs2 := hsw.below hb2 hsw.lt
              have hb3 := hbw.trans (hb2.mono hbw.size)
              go_wp2_with (at_mapUpdate; refine wpList_mapUpdate_own _ rfl _ _ _ 28 rfl 3 58 int_law Try.underlying28 _ sm _ (setD (insAll [] (zs.take j))) rfl hs2.own (by unfold maxLen; omega) _ _ _ rfl rfl (keyOf_int_mk Try.underlying3 hwf) _ [] unitElem_mk ?_; intro w3 hown3 hgrow3)
              rw [put_setD _ _ hs2.rising] at hown3
              have hs3 : SetAt w3 sm (insAll [] (zs.take (j + 1))) := by rw [HX.out]; exact SetAt.of_own hown3 (rising_ins hs2.rising)
              have hb4 := hb3.grown hgrow3 hb3.size (fun i hi => by cases hi; exact hsmw)
              clear hown3 hgrow3
              go_wp2
              go_roundw
              case rel => exact ⟨j + 1, by omega, by go_num, HN.out, hs3, hb4⟩
              case measure => simp [intOf]; omega
        · have hdu := HD.out
          rw [List.take_of_length_le (by rw [HL.out]; omega)] at hdu
          have HM := Lib.hid (mark_ok HALL.out hdu)
          clear hdu
          by_cases hk0 : 0 < k
          · go_wp2_with fail
            refine (use_any g m f n us A k c zs wr (h.below hbel) (hz.below hbel) (fun z hz' => by
              have := List.all_eq_true.1 HALL.out z hz'
              unfold inR at this; exact of_decide_eq_true this)).mono ?_
            rintro e w2 ⟨rfl, hp2, hg2⟩
            go_wp2_with fail
            go_ret
            exact ⟨ret_int HM.out.1.symm, by rw [HM.out.2]; exact hp2, grown_trans' (grown_of_below hbel _) ⟨hg2.os, hg2.tape, hg2.output, hg2.size, hg2.block⟩⟩
          · have hz0 : zs = [] := List.eq_nil_of_length_eq_zero (by rw [HL.out]; omega)
            have HZ := Lib.hid hz0
            clear hz0
            go_wp2_with fail
            go_ret
            exact ⟨ret_int HM.out.1.symm, by rw [HM.out.2, HZ.out]; exact h.below hbel, grown_of_below hbel _⟩
end Go.Proofs.Ytcglbbabfkbcbac
