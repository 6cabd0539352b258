/-
  A nil and a zero table.
-/
import Derived.Test.YtdlmipoeeiaapaaTableNeed
import Derived.Test.YtdlmipoeeiaapaaTableRoll
import Derived.Test.YtdlmipoeeiaapaaTableShard
import Derived.Test.YtdlmipoeeiaapaaTableNames
namespace Go.Proofs.Ytdlmipoeeiaapaa
open Go.RowKit Go.Maps

/-- A table that is none: nil, or zero. -/
structure ZeroT (w : World) (g : Nat) : Prop where
  blk : w.heap[g]? = some (.cells #[.int .i64 0, .map none] 55 (0, 0))
theorem ZeroT.below {w w' : World} {g : Nat} (h : ZeroT w g) (hb : Below w.heap.size w w') : ZeroT w' g := ⟨(hb.block g (lt_of_block h.blk)).trans h.blk⟩
theorem ZeroT.mk' (w : World) : ZeroT (w.alloc (.cells #[.int .i64 0, .map none] 55)) w.heap.size := ⟨heap_alloc_new w _⟩
def NoT (p : Value) (w : World) : Prop := ∀ w', Below w.heap.size w w' → Calls Try.prog 30 #[p] w' fun e w2 => e = .returned (.bool true) ∧ w' = w2
theorem NoT.below {p : Value} {w w' : World} (h : NoT p w) (hb : Below w.heap.size w w') : NoT p w' := fun w2 h2 => h w2 (hb.trans (h2.mono hb.size))
theorem NoT.at_ {p : Value} {w : World} (h : NoT p w) : Calls Try.prog 30 #[p] w fun e w2 => e = .returned (.bool true) ∧ w = w2 := h w (Below.refl _ _)
set_option maxHeartbeats 1000000 in
theorem noT_nil (w : World) : NoT (.pointer none) w := by
  intro w' _
  go_enter Try.func30, Try.ntmps30
  go_wp2
  go_ret
  exact ⟨rfl, rfl⟩
set_option maxHeartbeats 1000000 in
theorem noT_zero {w : World} {g : Nat} (h : ZeroT w g) : NoT (.pointer (some ⟨g, 0, none⟩)) w := by
  intro w' hb
  have h' := h.below hb
  have c0 := cell_of_row w' g 0 _ _ _ h'.blk
  have c1 := cell_of_row w' g 1 _ _ _ h'.blk
  have hq := fun W => run_eql_map_nil (P := Try.prog) W _ _ _ none Try.underlying53
  clear hb h h'
  go_enter Try.func30, Try.ntmps30
  go_wp2
  go_ret
  exact ⟨rfl, rfl⟩
set_option maxHeartbeats 1000000 in
theorem addT_no {p : Value} {w : World} (h : NoT p w) (v : Value) : Calls Try.prog 12 #[p, v] w fun e w' => e = .returned (.int .i64 0) ∧ w = w' := by
  have H := Lib.hid h.at_
  go_enter Try.func12, Try.ntmps12
  go_wp2_with (go_at_call 30; refine H.out.mono ?_; rintro e w1 ⟨rfl, rfl⟩)
  go_ret
  exact ⟨rfl, rfl⟩
set_option maxHeartbeats 1000000 in
theorem allT_no {p : Value} {w : World} (h : NoT p w) : Calls Try.prog 13 #[p] w fun e w' => e = .returned (.slice none 0 0) ∧ w = w' := by
  have H := Lib.hid h.at_
  go_enter Try.func13, Try.ntmps13
  go_wp2_with (go_at_call 30; refine H.out.mono ?_; rintro e w1 ⟨rfl, rfl⟩)
  go_ret
  exact ⟨rfl, rfl⟩
set_option maxHeartbeats 1000000 in
theorem findT_no {p : Value} {w : World} (h : NoT p w) (s : ByteArray) (n : Int) : Calls Try.prog 20 #[p, .string s, .int .i64 n] w fun e w' => e = .returned (.tuple #[.agg #[.int .i64 0, .int .i64 0, .int .u64 0, .int .i64 0, .int .i64 0], .bool false]) ∧ Below w.heap.size w w' := by
  have H := Lib.hid ((h.below ((Below.refl _ _).alloc (Nat.le_refl _) (.cells #[.int .i64 0, .int .i64 0, .int .u64 0, .int .i64 0, .int .i64 0] 32))).at_)
  go_enter Try.func20, Try.ntmps20
  go_wp2_with (go_at_call 30; refine H.out.mono ?_; rintro e w1 ⟨rfl, rfl⟩)
  exact bodyPost_ret (v := .tuple #[.agg #[.int .i64 0, .int .i64 0, .int .u64 0, .int .i64 0, .int .i64 0], .bool false]) (by simp [results, Try.results20, go_sem]) rfl ⟨rfl, (Below.refl _ _).alloc (Nat.le_refl _) _⟩
set_option maxHeartbeats 1000000 in
theorem dropT_no {p : Value} {w : World} (h : NoT p w) (f : Fn) (b c : Array Value) : Calls Try.prog 35 #[p, .func f b c] w fun e w' => e = .returned (.int .i64 0) ∧ Below w.heap.size w w' := by
  have H := Lib.hid ((h.below ((Below.refl _ _).alloc (Nat.le_refl _) (.cells #[.func f b c] 65))).at_)
  go_enter Try.func35, Try.ntmps35
  go_wp2_with (go_at_call 30; refine H.out.mono ?_; rintro e w1 ⟨rfl, rfl⟩)
  go_ret
  exact ⟨rfl, (Below.refl _ _).alloc (Nat.le_refl _) _⟩
set_option maxHeartbeats 1000000 in
theorem DropT_no {p : Value} {w : World} (h : NoT p w) (n : Int) : Calls Try.prog 14 #[p, .int .i64 n] w fun e w' => e = .returned (.int .i64 0) ∧ Below w.heap.size w w' := by
  have h1 := h.below ((Below.refl _ _).alloc (Nat.le_refl _) (.cells #[.int .i64 n] 3))
  have hb1 := (Below.refl w.heap.size w).alloc (Nat.le_refl _) (.cells #[.int .i64 n] 3)
  go_enter Try.func14, Try.ntmps14
  go_wp2_with (go_at_call 35; refine (dropT_no h1 _ _ _).mono ?_; rintro e w1 ⟨rfl, hb⟩)
  go_ret
  exact ⟨rfl, hb1.trans (hb.mono hb1.size)⟩
set_option maxHeartbeats 1000000 in
theorem ClearT_no {p : Value} {w : World} (h : NoT p w) (k n : Int) : Calls Try.prog 25 #[p, .int .i64 k, .int .i64 n] w fun e w' => e = .returned (.int .i64 0) ∧ Below w.heap.size w w' := by
  have hb1 : Below w.heap.size w ((w.alloc (.cells #[.int .i64 k] 3)).alloc (.cells #[.int .i64 n] 3)) := ((Below.refl w.heap.size w).alloc (Nat.le_refl _) _).alloc (by simp) _
  have h1 := h.below hb1
  go_enter Try.func25, Try.ntmps25
  go_wp2_with (go_at_call 35; refine (dropT_no h1 _ _ _).mono ?_; rintro e w1 ⟨rfl, hb⟩)
  go_ret
  exact ⟨rfl, hb1.trans (hb.mono hb1.size)⟩
/-- DeleteFunc of a nil slice. -/
theorem del_nil (f : Nat) (cb : Array Value) (w : World) (ef : ∀ args w, (callFunc f args).run Try.prog w = .ok (.enter f args) w) :
    Calls Try.prog 40 #[.slice none 0 0, .func (.func f) #[] cb] w fun e w' => ∃ A c, e = .returned (.slice A 0 c) ∧ Below w.heap.size w w' := by
  refine (deleteF_any (fun _ => false) f cb w.heap.size (.slice none 0 0) [] w (World.ownsRow_nil _ _ _ _) (by simp) (by decide) ef (fun W r _ hr => by cases hr)).mono ?_
  rintro e w' ⟨v, rfl, hrow, hg⟩
  refine ?_
  have hb : Below w.heap.size w w' := (Below.refl _ _).grown hg (Nat.le_refl _) (fun k hk => by cases hk)
  rcases hrow.2 with ⟨rfl, _⟩ | ⟨g, cap, cur, rfl, _⟩
  · exact ⟨_, _, rfl, hb⟩
  · exact ⟨_, _, rfl, hb⟩
set_option maxHeartbeats 1000000 in
theorem rangeT_no {p : Value} {w : World} (h : NoT p w) (s : ByteArray) (a b : Int) : Calls Try.prog 19 #[p, .string s, .int .i64 a, .int .i64 b] w fun e w' => ∃ A c, e = .returned (.slice A 0 c) ∧ Below w.heap.size w w' := by
  have hb3 : Below w.heap.size w (((w.alloc (.cells #[.string s] 9)).alloc (.cells #[.int .i64 a] 3)).alloc (.cells #[.int .i64 b] 3)) := (((Below.refl _ _).alloc (Nat.le_refl _) _).alloc (by simp) _).alloc (by simp; omega) _
  have h1 := h.below hb3
  have H := Lib.hid (allT_no h1)
  go_enter Try.func19, Try.ntmps19
  go_wp2_with fail
  refine H.out.mono ?_
  rintro e w1 ⟨rfl, rfl⟩
  go_wp2_with fail
  refine (del_nil 41 _ _ (enters_of Try.func41 (by kernel_rfl) rfl)).mono ?_
  rintro e w2 ⟨A, c, rfl, hb⟩
  go_wp2
  go_ret
  exact ⟨_, _, rfl, hb3.trans (hb.mono hb3.size)⟩
set_option maxHeartbeats 1000000 in
theorem shardT_no {p : Value} {w : World} (h : NoT p w) (k n : Int) : Calls Try.prog 22 #[p, .int .i64 k, .int .i64 n] w fun e w' => ∃ A c, e = .returned (.slice A 0 c) ∧ Below w.heap.size w w' := by
  have hb3 : Below w.heap.size w ((w.alloc (.cells #[.int .i64 k] 3)).alloc (.cells #[.int .i64 n] 3)) := ((Below.refl _ _).alloc (Nat.le_refl _) _).alloc (by simp) _
  have h1 := h.below hb3
  have H := Lib.hid (allT_no h1)
  go_enter Try.func22, Try.ntmps22
  go_wp2_with fail
  refine H.out.mono ?_
  rintro e w1 ⟨rfl, rfl⟩
  go_wp2_with fail
  refine (del_nil 42 _ _ (enters_of Try.func42 (by kernel_rfl) rfl)).mono ?_
  rintro e w2 ⟨A, c, rfl, hb⟩
  go_wp2
  go_ret
  exact ⟨_, _, rfl, hb3.trans (hb.mono hb3.size)⟩
set_option maxHeartbeats 1000000 in
theorem namesT_no {p : Value} {w : World} (h : NoT p w) : Calls Try.prog 27 #[p] w fun e w' => ∃ A c, e = .returned (.slice A 0 c) ∧ Below w.heap.size w w' := by
  have H := Lib.hid (allT_no h)
  go_enter Try.func27, Try.ntmps27
  go_wp2_with fail
  refine H.out.mono ?_
  rintro e w1 ⟨rfl, rfl⟩
  go_wp2_with fail
  go_loopw [3, 9] (fun v i wr => v = .slice none 0 0 ∧ i = .int .i64 0 ∧ wr = w) (fun _ _ _ => 0)
  case atStart => exact ⟨rfl, rfl, rfl⟩
  case round =>
    obtain ⟨rfl, rfl, rfl⟩ := hrel
    have hO := order_any none 0 0 [] wr ⟨Sl.nil _ _, rfl, by decide, by simp⟩ (by simp)
    go_wp2_with fail
    refine hO.mono ?_
    rintro e w7 ⟨v, rfl, hrow7, hb7⟩
    have h0 : (orderS []).length = 0 := Nat.le_zero.1 (order_len [])
    rw [h0] at hrow7
    obtain ⟨A, c, rfl⟩ : ∃ A c, v = .slice A 0 c := by
      rcases hrow7.2 with ⟨rfl, _⟩ | ⟨g, cap, cur, rfl, _⟩
      · exact ⟨_, _, rfl⟩
      · exact ⟨_, _, rfl⟩
    go_wp2
    go_ret
    exact ⟨_, _, rfl, hb7⟩
set_option maxHeartbeats 1000000 in
theorem lenT_nil (w : World) : Calls Try.prog 21 #[.pointer none] w fun e w' => e = .returned (.int .i64 0) ∧ w = w' := by
  go_enter Try.func21, Try.ntmps21
  go_wp2
  go_ret
  exact ⟨rfl, rfl⟩
set_option maxHeartbeats 1000000 in
theorem lenT_zero {w : World} {g : Nat} (h : ZeroT w g) : Calls Try.prog 21 #[.pointer (some ⟨g, 0, none⟩)] w fun e w' => e = .returned (.int .i64 0) ∧ w = w' := by
  have c1 := cell_of_row w g 1 _ _ _ h.blk
  have hl : ∀ ty, (Builtin.len_ #[53] ty #[.map none]).run Try.prog w = .ok (.int .i64 0) w := fun ty => by kernel_rfl
  go_enter Try.func21, Try.ntmps21
  go_wp2
  go_ret
  exact ⟨rfl, rfl⟩
set_option maxHeartbeats 1000000 in
theorem rollT_nil (w : World) (a b : Int) : Calls Try.prog 15 #[.pointer none, .int .i64 a, .int .i64 b] w fun e w' => e = .returned (.pointer none) ∧ w = w' := by
  go_enter Try.func15, Try.ntmps15
  go_wp2
  go_ret
  exact ⟨rfl, rfl⟩
set_option maxHeartbeats 1000000 in
theorem copyT_nil (w : World) : Calls Try.prog 24 #[.pointer none] w fun e w' => e = .returned (.pointer none) ∧ w = w' := by
  go_enter Try.func24, Try.ntmps24
  go_wp2
  go_ret
  exact ⟨rfl, rfl⟩
set_option maxRecDepth 100000 in
set_option maxHeartbeats 4000000 in
theorem needT_gen (n : Int) (p : Value) {w : World} {l : List Rc} (hok : ∀ r ∈ l, r.Ok) (hAll : Calls Try.prog 13 #[p] (w.alloc (.map #[] 0)) fun e w' => ∃ v, e = .returned v ∧ w'.ownsRow (w.alloc (.map #[] 0)).heap.size 34 7 v l.length (l.flatMap Rc.cells) ∧ Below (w.alloc (.map #[] 0)).heap.size (w.alloc (.map #[] 0)) w') (hfew : l.length < 1000000) (hn : -9223372036854775808 ≤ n ∧ n ≤ 9223372036854775807) :
    Calls Try.prog 23 #[p, .int .i64 n] w fun e w' => e = .returned (.int .i64 (needR n l)) ∧ Below w.heap.size w w' := by
  have hmk := @run_makeMap Try.prog
  have hga : Below w.heap.size w (w.alloc (.map #[] 0)) := (Below.refl _ _).alloc (Nat.le_refl _) _
  have hc0 : CntAt (w.alloc (.map #[] 0)) w.heap.size [] := ⟨_, World.ownsMap_made w _ _ _, RepC.nil⟩
  have HAll := Lib.hid hAll
  have HOK := Lib.hid hok
  clear hAll hok
  go_enter Try.func23, Try.ntmps23
  go_wp2_with (first
    | (go_at_call 13; refine HAll.out.mono ?_; rintro e w1 ⟨v, rfl, hrow, hb1⟩
       obtain ⟨A, c, rfl, hrs⟩ := own_rcs hrow HOK.out (by unfold maxLen; omega)))
  have hc1 := hc0.below hb1
  have hbw := hga.trans (hb1.mono hga.size)
  have hsz := hb1.size
  have hsz' : w.heap.size < w1.heap.size := by simp at hsz; omega
  clear hsz
  clear hrow hb1 hc0 hga
  go_loopw [15] (fun i wr => ∃ j : Nat, j ≤ l.length ∧ i = .int .i64 j ∧ CntAt wr w.heap.size (bumps (shards n (l.take j))) ∧ Rcs wr A l.length l ∧ Below w.heap.size w wr) (fun i _ => l.length - (intOf i).toNat)
  case atStart => exact ⟨0, Nat.zero_le _, rfl, hc1, hrs, hbw⟩
  case round =>
    clear hc1 hrs hbw
    obtain ⟨j, hj, rfl, hcn, hrs, hbw⟩ := hrel
    by_cases hlt : j < l.length
    · obtain ⟨b, off, rfl, hb, X⟩ := hrs.get hlt
      obtain ⟨r0, r1, r2, r3, r4, r5, r6⟩ := X
      have hnm := hrs.nm _ (List.getElem_mem hlt)
      have hcb := cnt_bd n (l.take j) (shardI (l[j]'hlt).nm.toList (max n 1))
      have hlen := len_bd n (l.take j)
      have hjj : (l.take j).length = j := by rw [List.length_take]; omega
      rw [hjj] at hcb hlen
      have HT := Lib.hid (show bumps (shards n (l.take (j + 1))) = bump (shardI (l[j]'hlt).nm.toList (max n 1)) (bumps (shards n (l.take j))) from by rw [List.take_succ_eq_append_getElem hlt, shards_snoc, bumps_snoc])
      have hk := shardI_bd (l[j]'hlt).nm.toList (max n 1) (by omega)
      have hq : shardI (l[j]'hlt).nm.toList (max n 1) = shardI (l[j]'hlt).nm.toList (max n 1) := rfl
      generalize bumps (shards n (l.take j)) = cs at *
      generalize (l[j]'hlt) = x at *
      obtain ⟨q, hq⟩ : ∃ q, shardI x.nm.toList (max n 1) = q := ⟨_, rfl⟩
      rw [hq] at hcb HT hk
      have HQ := Lib.hid hq
      clear hq
      obtain ⟨D, hown, hrc⟩ := hcn.own
      have hat0 := hrc.at_ q
      have hput := hrc.put q
      have hwf : (Lit.int .i64 (atc cs q + 1)).wf = true := wf_i64 (by omega)
      obtain ⟨z, hz⟩ : ∃ z, atc cs q = z := ⟨_, rfl⟩
      rw [hz] at hat0 hput hwf hcb
      have HAT := Lib.hid hat0
      have HPUT := Lib.hid hput
      clear hz hat0 hput
      have hcb1 := hcb.1
      have hcb2 : z ≤ 1000000 := by omega
      have HB := Lib.hid hcb.2
      have HLEN := Lib.hid hlen
      have HJJ := Lib.hid hjj
      clear hcb hlen hjj
      have hsz1 : w.heap.size < wr.heap.size := hcn.lt
      have hblk0 := hcn.nocell
      have HNC := Lib.hid (show ∀ o, (wr.alloc (.cells #[.string x.nm, .int .i64 x.st, .int .i64 x.ag.c, .int .i64 x.ag.hi, .int .u64 x.ag.lo, .int .i64 x.ag.mn, .int .i64 x.ag.mx] 34)).cell? ⟨w.heap.size, o, none⟩ = none from fun o => by
        rw [World.cell?_alloc_past _ _ _ hsz1]; exact hblk0 o)
      clear hblk0
      have HCL := Lib.hid (show cs.length < maxLen from by have := HLEN.out; unfold maxLen; omega)
      go_wp2_with (first
        | (go_at_call 43; refine (shard_any x.nm (max n 1) _ hnm).mono ?_; rw [HQ.out]; rintro e w2 ⟨rfl, rfl⟩)
        | (at_lookup; refine wpList_lookup_own_int _ rfl _ _ 70 rfl 3 3 .i64 int_law Try.underlying70 Try.underlying3 (zero_int _) w.heap.size _ D rfl (hown.alloc _) _ _ rfl (keyOf_int_mk Try.underlying3 hk) ?_; intro c hat hwc; obtain rfl : z = c := (by have := hat.symm.trans HAT.out; simpa using this.symm); clear hat hwc)
        | (at_mapUpdate; refine wpList_mapUpdate_own _ rfl _ _ _ 70 rfl 3 3 int_law Try.underlying70 (plainElem Try.prog 3) w.heap.size cs.length D rfl (hown.alloc _) HCL.out _ _ (.int .i64 q) rfl rfl (keyOf_int_mk Try.underlying3 hk) (.lit (.int .i64 (z + 1))) [] (plainElem_int Try.underlying3 hwf) ?_; intro w3 hown3 hg3))
      have hcn3 := CntAt.mk' hown3 HPUT.out
      have hb3 : Below w.heap.size w w3 := (hbw.alloc (by omega) _).grown hg3 (by simp; omega) (fun k hk => by cases hk; exact Nat.le_refl _)
      have hrs3 := (hrs.below ((Below.refl _ _).alloc (Nat.le_refl _) (.cells #[.string x.nm, .int .i64 x.st, .int .i64 x.ag.c, .int .i64 x.ag.hi, .int .u64 x.ag.lo, .int .i64 x.ag.mn, .int .i64 x.ag.mx] 34))).keepB HNC.out hg3
      go_roundw
      case rel => exact ⟨j + 1, by omega, by go_num, by rw [HT.out]; exact hcn3, hrs3, hb3⟩
      case measure => simp [intOf]; omega
    · have hje : j = l.length := by omega
      subst hje
      rw [List.take_length] at hcn
      have hbd := ceils_bd (pos_bumps (shards n l))
      rw [sumC_bumps] at hbd
      have hsl : (shards n l).length = l.length := by simp [shards]
      rw [hsl] at hbd
      have hall := (le_sumC (pos_bumps (shards n l))).1
      rw [sumC_bumps, hsl] at hall
      have hpos := pos_bumps (shards n l)
      have HND := Lib.hid (show needR n l = ceils (bumps (shards n l)) from rfl)
      generalize bumps (shards n l) = cs at *
      obtain ⟨D, hown, hrc⟩ := hcn.own
      have hbsz := hbw.size
      have hlt0 := hcn.lt
      have hle := fun left : Lit → Bool => camC_le hpos left
      clear hsl hrs hcn
      go_wp2_with (at_range; refine wpList_range_own _ rfl _ 70 rfl 3 3 int_law Try.underlying70 (plainElem Try.prog 3) w.heap.size cs.length _ rfl hown ?_; intro w0 hrg0 hg0 hs0)
      go_frame
      obtain ⟨wo, hwo⟩ : ∃ wo, wo = wr := ⟨_, rfl⟩
      subst hwo
      have hb0 : Below w.heap.size w w0 := hbw.grown hg0 hbsz (fun k hk => by cases hk)
      go_loopw [8] (fun t wr => ∃ (left : Lit → Bool) (cnt : Nat), wr.ranges Try.prog 3 (plainElem Try.prog 3) w.heap.size wo.heap.size cs.length D left cnt ∧ t = .int .i64 (ceils (camC cs left)) ∧ Below w.heap.size w wr)
        (fun _ wr => wr.rangeLeft w.heap.size wo.heap.size)
      case atStart => exact ⟨_, _, hrg0, by rw [camC_start hrc]; rfl, hb0⟩
      case round =>
        obtain ⟨left, cnt, hrg, rfl, hbel⟩ := hrel
        go_wp2_with (at_next; refine wpList_next_ranges_ii _ rfl _ rfl 3 3 .i64 .i64 int_law Try.underlying3 Try.underlying3 w.heap.size wo.heap.size cs.length _ _ _ rfl hrg ?_ ?_)
        · intro _ hl0
          rw [camC_end hl0]
          go_wp2
          go_ret
          exact ⟨by rw [HND.out]; rfl, hbel⟩
        · intro x c w1 cnt1 hwx hwc hlx hat hrg1 hlt hg1 hs1 hen
          have hm := hrc.next hat
          have hst := ceils_perm (camC_step hrc.apart (p := (x, c)) hm hlx)
          have hc1 := hpos _ hm
          have hc2 := hall _ hm
          have hl1 := hle left
          simp only at hc1 hc2 hst
          have HST := Lib.hid hst
          have hl2 := hl1.1
          have hl3 : ceils (camC cs left) ≤ 1000000 := by omega
          have hc3 : c ≤ 1000000 := by omega
          clear hst hat hl1 hwx hwc hbd hall hpos hle
          have HLT := Lib.hid hlt
          have HRG := Lib.hid hrg
          clear hlt hrg
          go_wp2
          go_roundw
          case rel => exact ⟨_, cnt1, hrg1, by rw [HST.out]; simp only [ceils]; go_num, hbel.grown hg1 hbel.size (fun k hk => by cases hk; exact hbsz)⟩
          case measure => rw [hrg1.left_eq, HRG.out.left_eq]; exact HLT.out
theorem needT_no {p : Value} {w : World} (h : NoT p w) (n : Int) (hn : -9223372036854775808 ≤ n ∧ n ≤ 9223372036854775807) : Calls Try.prog 23 #[p, .int .i64 n] w fun e w' => e = .returned (.int .i64 0) ∧ Below w.heap.size w w' :=
  needT_gen n p (l := []) (by simp) ((allT_no (h.below ((Below.refl _ _).alloc (Nat.le_refl _) _))).mono fun e w' ⟨h1, h2⟩ => ⟨_, h1, by rw [← h2]; exact World.ownsRow_nil _ _ _ _, by rw [← h2]; exact Below.refl _ _⟩) (by decide) hn
end Go.Proofs.Ytdlmipoeeiaapaa
