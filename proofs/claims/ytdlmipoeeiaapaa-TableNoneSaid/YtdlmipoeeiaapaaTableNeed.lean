/-
  Need: how many blocks the records take.
-/
import Derived.Test.YtdlmipoeeiaapaaTableAll
import Derived.Test.YtdlmipoeeiaapaaCounts
namespace Go.Proofs.Ytdlmipoeeiaapaa
open Go.RowKit Go.Maps

theorem own_rcs {w : World} {B : Nat} {v : Value} {l : List Rc} (h : w.ownsRow B 34 7 v l.length (l.flatMap Rc.cells)) (hok : ∀ r ∈ l, r.Ok) (hn : l.length ≤ maxLen) :
    ∃ A c, v = .slice A l.length c ∧ Rcs w A l.length l := by
  have hnm : ∀ r ∈ l, r.nm.size ≤ maxLen := fun r hr => (hok r hr).nm
  have hst : ∀ r ∈ l, (Lit.int .i64 r.st).wf = true := fun r hr => (hok r hr).st
  have hag : ∀ r ∈ l, r.ag.Ok := fun r hr => (hok r hr).ag.ok
  rcases h.2 with ⟨rfl, he⟩ | ⟨g, cap, cur, rfl, _, hg, _, _, _, ht⟩
  · refine ⟨none, 0, by rw [he], ⟨?_, rfl, hn, hnm, hst, hag⟩⟩
    rw [List.eq_nil_of_length_eq_zero he]; exact Sl.nil _ _
  · refine ⟨some ⟨g, 0, none⟩, cap, rfl, ⟨⟨fun _ => ⟨g, 0, rfl, lt_of_block hg, fun j u hu => ?_⟩⟩, rfl, hn, hnm, hst, hag⟩⟩
    have hj : j < l.length * 7 := by have := (List.getElem?_eq_some_iff.1 hu).1; rwa [rowK_len rc_len] at this
    rw [Nat.zero_add, h.cellAt j hj]
    exact hu
theorem Rcs.keepB {w w' : World} {A : Option Addr} {n b0 : Nat} {l : List Rc} (h : Rcs w A n l) (hm : ∀ o, w.cell? ⟨b0, o, none⟩ = none) (hg : w.grownBy w' (some b0)) : Rcs w' A n l := by
  refine ⟨⟨fun hne => ?_⟩, h.len, h.n_le, h.nm, h.st, h.ok⟩
  obtain ⟨b, off, e, hb, hc⟩ := h.sl.at_ hne
  have hbm : b ≠ b0 := by
    intro e2
    subst e2
    cases hx : l.flatMap Rc.cells with
    | nil => exact hne hx
    | cons u r =>
      have := hc 0 u (by rw [hx]; rfl)
      rw [hm] at this; cases this
  exact ⟨b, off, e, Nat.lt_of_lt_of_le hb hg.size, fun j u hu => hg.cell (hc j u hu) (fun e3 => hbm (by injection e3))⟩
theorem Rcs.below {w w' : World} {A : Option Addr} {n : Nat} {l : List Rc} (h : Rcs w A n l) (hb : Below w.heap.size w w') : Rcs w' A n l := ⟨h.sl.below hb, h.len, h.n_le, h.nm, h.st, h.ok⟩
/-- The shards of records. -/
def shards (n : Int) (l : List Rc) : List Int := l.map fun r => shardI r.nm.toList (max n 1)
theorem shards_snoc (n : Int) (l : List Rc) (r : Rc) : shards n (l ++ [r]) = shards n l ++ [shardI r.nm.toList (max n 1)] := by simp [shards]
def needR (n : Int) (l : List Rc) : Int := ceils (bumps (shards n l))
theorem shardI_bd (s : List UInt8) (n : Int) (hn : -9223372036854775808 ≤ n ∧ n ≤ 9223372036854775807) : (Lit.int .i64 (shardI s n)).wf = true := by
  have hb := hash_bd s
  have : 0 ≤ shardI s n ∧ shardI s n ≤ 9223372036854775807 := by
    unfold shardI
    split
    · omega
    · have := Int.emod_nonneg (hash s) (show n ≠ 0 by omega)
      have := Int.emod_lt_of_pos (hash s) (show 0 < n by omega)
      omega
  exact wf_i64 (by omega)
theorem cnt_bd (n : Int) (l : List Rc) (k : Int) : 0 ≤ atc (bumps (shards n l)) k ∧ atc (bumps (shards n l)) k ≤ l.length := by
  have h1 := atc_bd (pos_bumps (shards n l)) k
  rw [sumC_bumps] at h1
  simpa [shards] using h1
theorem len_bd (n : Int) (l : List Rc) : (bumps (shards n l)).length ≤ l.length := by
  have h1 := (le_sumC (pos_bumps (shards n l))).2
  rw [sumC_bumps] at h1
  simp [shards] at h1
  exact h1
theorem camC_le {cs : List (Int × Int)} (h : ∀ p ∈ cs, 1 ≤ p.2) (left : Lit → Bool) : 0 ≤ ceils (camC cs left) ∧ ceils (camC cs left) ≤ ceils cs := by
  induction cs with
  | nil => simp [camC, ceils]
  | cons q r ih =>
    have h1 := ih (fun p hp => h p (by simp [hp]))
    have h2 := h q (by simp)
    unfold camC at h1 ⊢
    rw [List.filter_cons]
    split <;> simp only [ceils] <;> omega
set_option maxRecDepth 100000 in
set_option maxHeartbeats 4000000 in
theorem needT_any (n : Int) {w : World} {g mm : Nat} {ev : Int} {l : List Rc} (h : TableAt w g mm ev l) (hfew : l.length < 1000000) (hn : -9223372036854775808 ≤ n ∧ n ≤ 9223372036854775807) :
    Calls Try.prog 23 #[.pointer (some ⟨g, 0, none⟩), .int .i64 n] w fun e w' => e = .returned (.int .i64 (needR n l)) ∧ Below w.heap.size w w' := by
  have hmk := @run_makeMap Try.prog
  have hga : Below w.heap.size w (w.alloc (.map #[] 0)) := (Below.refl _ _).alloc (Nat.le_refl _) _
  have h1 := h.below hga
  have hc0 : CntAt (w.alloc (.map #[] 0)) w.heap.size [] := ⟨_, World.ownsMap_made w _ _ _, RepC.nil⟩
  obtain ⟨_, _, hrep⟩ := h.map.own
  go_enter Try.func23, Try.ntmps23
  go_wp2_with (first
    | (go_at_call 13; refine (allT_any h1 hfew).mono ?_; rintro e w1 ⟨v, rfl, hrow, hb1⟩
       obtain ⟨A, c, rfl, hrs⟩ := own_rcs hrow hrep.ok (by unfold maxLen; omega)))
  have hc1 := hc0.below hb1
  have hbw := hga.trans (hb1.mono hga.size)
  have hsz := hb1.size
  have hsz' : w.heap.size < w1.heap.size := by simp at hsz; omega
  clear hsz
  clear hrow hb1 hc0 hga
  go_loopw [15] (fun i wr => ∃ j : Nat, j ≤ l.length ∧ i = .int .i64 j ∧ CntAt wr w.heap.size (bumps (shards n (l.take j))) ∧ Rcs wr A l.length l ∧ Below w.heap.size w wr) (fun i _ => l.length - (intOf i).toNat)
  case atStart => exact ⟨0, Nat.zero_le _, rfl, hc1, hrs, hbw⟩
  case round =>
    clear hc1 hrs hbw
    obtain ⟨j, hj, rfl, hcn, hrs, hbw⟩ := hrel
    by_cases hlt : j < l.length
    · obtain ⟨b, off, rfl, hb, X⟩ := hrs.get hlt
      obtain ⟨r0, r1, r2, r3, r4, r5, r6⟩ := X
      have hnm := hrs.nm _ (List.getElem_mem hlt)
      have hcb := cnt_bd n (l.take j) (shardI (l[j]'hlt).nm.toList (max n 1))
      have hlen := len_bd n (l.take j)
      have hjj : (l.take j).length = j := by rw [List.length_take]; omega
      rw [hjj] at hcb hlen
      have HT := Lib.hid (show bumps (shards n (l.take (j + 1))) = bump (shardI (l[j]'hlt).nm.toList (max n 1)) (bumps (shards n (l.take j))) from by rw [List.take_succ_eq_append_getElem hlt, shards_snoc, bumps_snoc])
      have hk := shardI_bd (l[j]'hlt).nm.toList (max n 1) (by omega)
      have hq : shardI (l[j]'hlt).nm.toList (max n 1) = shardI (l[j]'hlt).nm.toList (max n 1) := rfl
      generalize bumps (shards n (l.take j)) = cs at *
      generalize (l[j]'hlt) = x at *
      obtain ⟨q, hq⟩ : ∃ q, shardI x.nm.toList (max n 1) = q := ⟨_, rfl⟩
      rw [hq] at hcb HT hk
      have HQ := Lib.hid hq
      clear hq
      obtain ⟨D, hown, hrc⟩ := hcn.own
      have hat0 := hrc.at_ q
      have hput := hrc.put q
      have hwf : (Lit.int .i64 (atc cs q + 1)).wf = true := wf_i64 (by omega)
      obtain ⟨z, hz⟩ : ∃ z, atc cs q = z := ⟨_, rfl⟩
      rw [hz] at hat0 hput hwf hcb
      have HAT := Lib.hid hat0
      have HPUT := Lib.hid hput
      clear hz hat0 hput
      have hcb1 := hcb.1
      have hcb2 : z ≤ 1000000 := by omega
      have HB := Lib.hid hcb.2
      have HLEN := Lib.hid hlen
      have HJJ := Lib.hid hjj
      clear hcb hlen hjj
      have hsz1 : w.heap.size < wr.heap.size := hcn.lt
      have hblk0 := hcn.nocell
      have HNC := Lib.hid (show ∀ o, (wr.alloc (.cells #[.string x.nm, .int .i64 x.st, .int .i64 x.ag.c, .int .i64 x.ag.hi, .int .u64 x.ag.lo, .int .i64 x.ag.mn, .int .i64 x.ag.mx] 34)).cell? ⟨w.heap.size, o, none⟩ = none from fun o => by
        rw [World.cell?_alloc_past _ _ _ hsz1]; exact hblk0 o)
      clear hblk0
      have HCL := Lib.hid (show cs.length < maxLen from by have := HLEN.out; unfold maxLen; omega)
      go_wp2_with (first
        | (go_at_call 43; refine (shard_any x.nm (max n 1) _ hnm).mono ?_; rw [HQ.out]; rintro e w2 ⟨rfl, rfl⟩)
        | (at_lookup; refine wpList_lookup_own_int _ rfl _ _ 70 rfl 3 3 .i64 int_law Try.underlying70 Try.underlying3 (zero_int _) w.heap.size _ D rfl (hown.alloc _) _ _ rfl (keyOf_int_mk Try.underlying3 hk) ?_; intro c hat hwc; obtain rfl : z = c := (by have := hat.symm.trans HAT.out; simpa using this.symm); clear hat hwc)
        | (at_mapUpdate; refine wpList_mapUpdate_own _ rfl _ _ _ 70 rfl 3 3 int_law Try.underlying70 (plainElem Try.prog 3) w.heap.size cs.length D rfl (hown.alloc _) HCL.out _ _ (.int .i64 q) rfl rfl (keyOf_int_mk Try.underlying3 hk) (.lit (.int .i64 (z + 1))) [] (plainElem_int Try.underlying3 hwf) ?_; intro w3 hown3 hg3))
      have hcn3 := CntAt.mk' hown3 HPUT.out
      have hb3 : Below w.heap.size w w3 := (hbw.alloc (by omega) _).grown hg3 (by simp; omega) (fun k hk => by cases hk; exact Nat.le_refl _)
      have hrs3 := (hrs.below ((Below.refl _ _).alloc (Nat.le_refl _) (.cells #[.string x.nm, .int .i64 x.st, .int .i64 x.ag.c, .int .i64 x.ag.hi, .int .u64 x.ag.lo, .int .i64 x.ag.mn, .int .i64 x.ag.mx] 34))).keepB HNC.out hg3
      go_roundw
      case rel => exact ⟨j + 1, by omega, by go_num, by rw [HT.out]; exact hcn3, hrs3, hb3⟩
      case measure => simp [intOf]; omega
    · have hje : j = l.length := by omega
      subst hje
      rw [List.take_length] at hcn
      have hbd := ceils_bd (pos_bumps (shards n l))
      rw [sumC_bumps] at hbd
      have hsl : (shards n l).length = l.length := by simp [shards]
      rw [hsl] at hbd
      have hall := (le_sumC (pos_bumps (shards n l))).1
      rw [sumC_bumps, hsl] at hall
      have hpos := pos_bumps (shards n l)
      have HND := Lib.hid (show needR n l = ceils (bumps (shards n l)) from rfl)
      generalize bumps (shards n l) = cs at *
      obtain ⟨D, hown, hrc⟩ := hcn.own
      have hbsz := hbw.size
      have hlt0 := hcn.lt
      have hle := fun left : Lit → Bool => camC_le hpos left
      clear hsl hrs hcn
      go_wp2_with (at_range; refine wpList_range_own _ rfl _ 70 rfl 3 3 int_law Try.underlying70 (plainElem Try.prog 3) w.heap.size cs.length _ rfl hown ?_; intro w0 hrg0 hg0 hs0)
      go_frame
      obtain ⟨wo, hwo⟩ : ∃ wo, wo = wr := ⟨_, rfl⟩
      subst hwo
      have hb0 : Below w.heap.size w w0 := hbw.grown hg0 hbsz (fun k hk => by cases hk)
      go_loopw [8] (fun t wr => ∃ (left : Lit → Bool) (cnt : Nat), wr.ranges Try.prog 3 (plainElem Try.prog 3) w.heap.size wo.heap.size cs.length D left cnt ∧ t = .int .i64 (ceils (camC cs left)) ∧ Below w.heap.size w wr)
        (fun _ wr => wr.rangeLeft w.heap.size wo.heap.size)
      case atStart => exact ⟨_, _, hrg0, by rw [camC_start hrc]; rfl, hb0⟩
      case round =>
        obtain ⟨left, cnt, hrg, rfl, hbel⟩ := hrel
        go_wp2_with (at_next; refine wpList_next_ranges_ii _ rfl _ rfl 3 3 .i64 .i64 int_law Try.underlying3 Try.underlying3 w.heap.size wo.heap.size cs.length _ _ _ rfl hrg ?_ ?_)
        · intro _ hl0
          rw [camC_end hl0]
          go_wp2
          go_ret
          exact ⟨by rw [HND.out]; rfl, hbel⟩
        · intro x c w1 cnt1 hwx hwc hlx hat hrg1 hlt hg1 hs1 hen
          have hm := hrc.next hat
          have hst := ceils_perm (camC_step hrc.apart (p := (x, c)) hm hlx)
          have hc1 := hpos _ hm
          have hc2 := hall _ hm
          have hl1 := hle left
          simp only at hc1 hc2 hst
          have HST := Lib.hid hst
          have hl2 := hl1.1
          have hl3 : ceils (camC cs left) ≤ 1000000 := by omega
          have hc3 : c ≤ 1000000 := by omega
          clear hst hat hl1 hwx hwc hbd hall hpos hle
          have HLT := Lib.hid hlt
          have HRG := Lib.hid hrg
          clear hlt hrg
          go_wp2
          go_roundw
          case rel => exact ⟨_, cnt1, hrg1, by rw [HST.out]; simp only [ceils]; go_num, hbel.grown hg1 hbel.size (fun k hk => by cases hk; exact hbsz)⟩
          case measure => rw [hrg1.left_eq, HRG.out.left_eq]; exact HLT.out
end Go.Proofs.Ytdlmipoeeiaapaa
