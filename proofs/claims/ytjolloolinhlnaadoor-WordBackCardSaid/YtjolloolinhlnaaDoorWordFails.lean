/-
  WordFails: a byte that is none is told with its line, wherever it stands.
-/
import Derived.Test.YtjolloolinhlnaaDoorWordIs
import Derived.Laws.BytesArg
import Derived.Laws.Concat
namespace Go.Proofs.YtjolloolinhlnaaDoor
open Go.RowKit

theorem okB_ten : okB 10 = false := by decide
theorem linesOf_ne : ∀ l, linesOf l ≠ []
  | [] => by simp [linesOf]
  | c :: r => by
    unfold linesOf
    split
    · simp
    · split <;> simp
theorem linesOf_cons {x : UInt8} (hx : x ≠ 10) (l : List UInt8) : ∃ y ys, linesOf l = y :: ys ∧ linesOf (x :: l) = (x :: y) :: ys := by
  match h : linesOf l with
  | [] => exact absurd h (linesOf_ne l)
  | y :: ys => exact ⟨y, ys, rfl, by rw [linesOf, if_neg hx, h]⟩
theorem cutE_ok : ∀ (a : List UInt8) (n : Int), 1 ≤ n → cutE n (linesOf a) = 0 → ∀ x ∈ a, x = 10 ∨ okB x = true
  | [], _, _, _, x, hx => by simp at hx
  | y :: r, n, hn, h, x, hx => by
    by_cases hy : y = 10
    · subst hy
      have e : linesOf (10 :: r) = [] :: linesOf r := by rw [linesOf, if_pos rfl]
      rw [e] at h
      have h2 : cutE (n + 1) (linesOf r) = 0 := h
      rcases List.mem_cons.1 hx with rfl | hx
      · exact .inl rfl
      · exact cutE_ok r (n + 1) (by omega) h2 x hx
    · obtain ⟨z, zs, e1, e2⟩ := linesOf_cons hy r
      rw [e2] at h
      have h3 : (if (y :: z).all okB = true then cutE (n + 1) zs else n) = 0 := h
      by_cases h4 : (y :: z).all okB = true
      · rw [if_pos h4] at h3
        rw [List.all_cons, Bool.and_eq_true] at h4
        rcases List.mem_cons.1 hx with rfl | hx
        · exact .inr h4.1
        · exact cutE_ok r n hn (by rw [e1]; show (if z.all okB = true then cutE (n + 1) zs else n) = 0; rw [if_pos h4.2]; exact h3) x hx
      · rw [if_neg h4] at h3; omega
theorem cutE_bad (c : UInt8) (hc : c ≠ 10) (hb : okB c = false) (b : List UInt8) : ∀ (a : List UInt8) (n : Int), (∀ x ∈ a, x = 10 ∨ okB x = true) → cutE n (linesOf (a ++ c :: b)) = n + (a.count 10 : Nat)
  | [], n, _ => by
    obtain ⟨z, zs, _, e2⟩ := linesOf_cons hc b
    show cutE n (linesOf (c :: b)) = _
    rw [e2]
    show (if (c :: z).all okB = true then _ else n) = _
    rw [if_neg (by simp [hb])]; simp
  | y :: r, n, ha => by
    have ih := cutE_bad c hc hb b r
    by_cases hy : y = 10
    · subst hy
      have e : linesOf (10 :: (r ++ c :: b)) = [] :: linesOf (r ++ c :: b) := by rw [linesOf, if_pos rfl]
      show cutE n (linesOf (10 :: (r ++ c :: b))) = _
      rw [e]
      show cutE (n + 1) (linesOf (r ++ c :: b)) = _
      rw [ih (n + 1) (fun x hx => ha x (by simp [hx])), List.count_cons_self]; omega
    · obtain ⟨z, zs, e1, e2⟩ := linesOf_cons hy (r ++ c :: b)
      show cutE n (linesOf (y :: (r ++ c :: b))) = _
      rw [e2]
      have hyo : okB y = true := (ha y (by simp)).resolve_left hy
      have h3 := ih n (fun x hx => ha x (by simp [hx]))
      rw [e1] at h3
      have h4 : cutE n ((y :: z) :: zs) = cutE n (z :: zs) := by
        show (if (y :: z).all okB = true then cutE (n + 1) zs else n) = (if z.all okB = true then cutE (n + 1) zs else n)
        simp [hyo]
      rw [h4, h3, List.count_cons_of_ne (fun e => hy e)]
theorem cut_small (s : ByteArray) (w : World) (hs : s.size ≤ 4000) (hm : ∃ m : Int, w.cell? ⟨0, 0, none⟩ = some (.int .i64 m)) :
    Calls Tryd.prog 9 #[.string s] w fun e w' => Below w.heap.size w w' ∧
      ((cutE 1 (linesL s) ≠ 0 ∧ e = .returned (.tuple #[.pointer none, .int .i64 22, .int .i64 (cutE 1 (linesL s))])) ∨
       (cutE 1 (linesL s) = 0 ∧ ∃ g, w.heap.size ≤ g ∧ e = .returned (.tuple #[.pointer (some ⟨g, 0, none⟩), .int .i64 0, .int .i64 0]) ∧ WordsAt w' g 0 (cutW 1 (linesL s)))) :=
  (cut_any s w (by unfold maxLen; omega) hm).mono fun e w' ⟨hb, h⟩ => ⟨hb, h.elim (fun h => absurd h.1 (by omega)) (fun h => h.imp (fun h => h.2) (fun h => h.2))⟩
set_option maxHeartbeats 2000000 in
/-- string([]byte{b}) at a block that has just been laid. -/
theorem conv_one (v : Int) (W : World) : (convert 53 9 (.slice (some ⟨W.heap.size, 0, none⟩) 1 1)).run Tryd.prog (W.alloc (.cells #[.int .u8 v] 5)) = .ok (.string (strOfNums [v])) (W.alloc (.cells #[.int .u8 v] 5)) :=
  run_convert_bytes_arg _ 53 5 Tryd.underlying53 Tryd.underlying5 W.heap.size 0 1 1 [v] rfl (fun i hi => by
    have : i = 0 := by omega
    subst this; simp [go_sem]) 9 Tryd.underlying9
theorem int_eq {a b : Int} (h : a = b) : Value.int .i64 a = .int .i64 b := by rw [h]
theorem three_list (a b : ByteArray) (v : Int) : (a ++ strOfNums [v] ++ b).toList = a.toList ++ UInt8.ofNat v.toNat :: b.toList := by
  rw [ByteArray.toList_eq, ByteArray.toList_eq, ByteArray.toList_eq]; simp [strOfNums]
theorem three_size (a b : ByteArray) (v : Int) : (a ++ strOfNums [v] ++ b).size = a.size + b.size + 1 := by
  rw [← len_toList, three_list]; simp [len_toList]; omega
theorem not_ok (c : Int) (h0 : 0 ≤ c) (h1 : c ≤ 255) (h2 : ¬ (33 ≤ c ∧ c ≤ 126)) (h3 : (c == 32) = false) (h4 : (c == 9) = false) : okB (UInt8.ofNat c.toNat) = false := by
  have e : ((UInt8.ofNat c.toNat).toNat : Int) = c := by simp; omega
  have h3' := beq_eq_false_iff_ne.1 h3
  have h4' := beq_eq_false_iff_ne.1 h4
  unfold okB blankB wletterB
  rw [e, Bool.or_eq_false_iff]
  exact ⟨decide_eq_false (fun h => h.elim h3' h4'), decide_eq_false (fun h => h2 ⟨by omega, by omega⟩)⟩
set_option maxRecDepth 100000 in
set_option maxHeartbeats 4000000 in
theorem walk_WordFails (a b : ByteArray) (c : Int) (w : World) (hm : ∃ m : Int, w.cell? ⟨0, 0, none⟩ = some (.int .i64 m)) (ha : a.size ≤ reachBytes) (hb : b.size ≤ reachBytes) (hc : (Lit.int .i64 c).wf = true) :
    Calls Tryd.prog 4 #[.string a, .string b, .int .i64 c] w fun e w' => e = .returned (.bool true) ∧ Below w.heap.size w w' := by
  have ha' : a.size ≤ 140737488351232 := by simpa [reachBytes] using ha
  have hb' : b.size ≤ 140737488351232 := by simpa [reachBytes] using hb
  clear ha hb
  have hw : IntKind.i64.wrap ((a.size : Int) + b.size) = (a.size : Int) + b.size := IntWalk.i64_in _ (by omega)
  have hlt0 : 0 < w.heap.size := by obtain ⟨m, h⟩ := hm; have := block_lt_of_cell h; simpa using this
  by_cases g0 : 3000 < (a.size : Int) + b.size
  · go_enter Tryd.func4, Tryd.ntmps4
    go_wp2_with (go_at_call 7; refine (alive_any _ hm).mono ?_; rintro e w1 ⟨rfl, hb1⟩)
    go_ret
    exact ⟨rfl, hb1⟩
  by_cases g1 : 33 ≤ c
  · by_cases g2 : c ≤ 126
    · go_enter Tryd.func4, Tryd.ntmps4
      go_wp2_with (go_at_call 7; refine (alive_any _ hm).mono ?_; rintro e w1 ⟨rfl, hb1⟩)
      go_ret
      exact ⟨rfl, hb1⟩
    by_cases g3 : 255 < c
    · go_enter Tryd.func4, Tryd.ntmps4
      go_wp2_with (go_at_call 7; refine (alive_any _ hm).mono ?_; rintro e w1 ⟨rfl, hb1⟩)
      go_ret
      exact ⟨rfl, hb1⟩
    have n1 : (c == 32) = false := beq_eq_false_iff_ne.2 (by omega)
    have n2 : (c == 9) = false := beq_eq_false_iff_ne.2 (by omega)
    have n3 : (c == 10) = false := beq_eq_false_iff_ne.2 (by omega)
    have n4 : ¬ c < 0 := by omega
    go_enter Tryd.func4, Tryd.ntmps4
    go_wp2_with (first
      | (go_at_call 9; refine (cut_small a _ (by omega) hm).mono ?_; rintro e w1 ⟨hb1, (⟨h2, rfl⟩ | ⟨h2, g, hg, rfl, hW⟩)⟩)
      | (go_at_call 7; refine (alive_any _ (hm.imp fun m h => (hb1.cell (p := ⟨0, 0, none⟩) hlt0).trans h)).mono ?_; rintro e w2 ⟨rfl, hb2⟩))
    · go_ret
      exact ⟨rfl, hb1.trans (hb2.mono hb1.size)⟩
    have HOK := Lib.hid (cutE_ok _ 1 (by omega) (by rw [← linesL_is]; exact h2))
    have HCB := Lib.hid (show ((UInt8.ofNat c.toNat).toNat : Int) = c from by simp; omega)
    have HNO := Lib.hid (not_ok c (by omega) (by omega) (by omega) n1 n2)
    have HTEN := Lib.hid (show UInt8.ofNat c.toNat ≠ 10 from fun e => by have h := HCB.out; rw [e] at h; rw [← h] at n3; simp at n3)
    go_loopw [10, 11] (fun n i wr => ∃ k : Nat, k ≤ a.size ∧ i = .int .i64 k ∧ n = .int .i64 (1 + ((a.toList.take k).count 10 : Nat)) ∧ Below w.heap.size w wr) (fun _ i _ => a.size - (intOf i).toNat)
    case atStart => exact ⟨0, Nat.zero_le _, rfl, by simp, hb1⟩
    case round =>
      obtain ⟨k, hk, rfl, rfl, hbr⟩ := hrel
      by_cases hlt : k < a.size
      · have hts := Lib.hid (take_snoc a k hlt)
        have hcnt : (a.toList.take k).count 10 ≤ 4000 := by
          have := List.count_le_length (a := (10 : UInt8)) (l := a.toList.take k)
          rw [List.length_take, len_toList] at this; omega
        by_cases ht : a[k] = 10
        · have hti : ((a[k].toNat : Int) == 10) = true := by rw [ht]; rfl
          go_wp2_with fail
          go_roundw
          case rel => exact ⟨k + 1, by omega, by go_num, int_eq (by rw [hts.out, List.count_append, ht, show List.count (10 : UInt8) [10] = 1 from rfl]; omega), hbr⟩
          case measure => simp [intOf]; omega
        · have hti : ((a[k].toNat : Int) == 10) = false := beq_eq_false_iff_ne.2 (fun h => ht (UInt8.toNat_inj.1 (by have : (10 : UInt8).toNat = 10 := rfl; omega)))
          go_wp2_with fail
          go_roundw
          case rel => exact ⟨k + 1, by omega, by go_num, int_eq (by rw [hts.out, List.count_append, List.count_singleton]; simp [ht]), hbr⟩
          case measure => simp [intOf]; omega
      · have hd : decide ((k : Int) < (a.size : Int)) = false := decide_eq_false (by omega)
        have kc := conv_one
        have ks : (strOfNums [c]).size = 1 := rfl
        have ks2 : (a ++ strOfNums [c]).size = a.size + 1 := by rw [ByteArray.size_append, ks]
        have hmod : c % 256 = c := by omega
        have HF := Lib.hid (show cutE 1 (linesL (a ++ strOfNums [c] ++ b)) = 1 + (a.toList.count 10 : Nat) from by
          rw [linesL_is, three_list]; exact cutE_bad _ HTEN.out HNO.out _ _ _ HOK.out)
        have ht3 := three_size a b c
        have hbm : ∃ m : Int, (wr.alloc (.cells #[.int .u8 c] 5)).cell? ⟨0, 0, none⟩ = some (.int .i64 m) := hm.imp fun m h => ((hbr.alloc hbr.size (.cells #[.int .u8 c] 5)).cell (p := ⟨0, 0, none⟩) hlt0).trans h
        go_wp2_with fail
        refine (cut_small _ _ (by rw [ht3]; omega) hbm).mono ?_
        rw [HF.out]
        rintro e w4 ⟨hb4, (⟨h4, rfl⟩ | ⟨h4, g', hg', rfl, hW'⟩)⟩
        rotate_left
        · omega
        have hb5 := (hbr.alloc hbr.size (.cells #[.int .u8 c] 5)).trans (hb4.mono (by have := hbr.size; simp; omega))
        have hfull : a.toList.take k = a.toList := List.take_of_length_le (by rw [len_toList]; omega)
        rw [hfull]
        clear kc hfull
        go_wp2_with (go_at_call 7; refine (alive_any _ (hm.imp fun m h => (hb5.cell (p := ⟨0, 0, none⟩) hlt0).trans h)).mono ?_; rintro e w6 ⟨rfl, hb6⟩)
        go_ret
        exact ⟨rfl, hb5.trans (hb6.mono hb5.size)⟩
  · by_cases n1' : c = 32
    · subst n1'
      go_enter Tryd.func4, Tryd.ntmps4
      go_wp2_with (go_at_call 7; refine (alive_any _ hm).mono ?_; rintro e w1 ⟨rfl, hb1⟩)
      go_ret
      exact ⟨rfl, hb1⟩
    by_cases n2' : c = 9
    · subst n2'
      go_enter Tryd.func4, Tryd.ntmps4
      go_wp2_with (go_at_call 7; refine (alive_any _ hm).mono ?_; rintro e w1 ⟨rfl, hb1⟩)
      go_ret
      exact ⟨rfl, hb1⟩
    by_cases n3' : c = 10
    · subst n3'
      go_enter Tryd.func4, Tryd.ntmps4
      go_wp2_with (go_at_call 7; refine (alive_any _ hm).mono ?_; rintro e w1 ⟨rfl, hb1⟩)
      go_ret
      exact ⟨rfl, hb1⟩
    by_cases n4 : c < 0
    · go_enter Tryd.func4, Tryd.ntmps4
      go_wp2_with (go_at_call 7; refine (alive_any _ hm).mono ?_; rintro e w1 ⟨rfl, hb1⟩)
      go_ret
      exact ⟨rfl, hb1⟩
    have g3 : ¬ 255 < c := by omega
    have n1 := beq_eq_false_iff_ne.2 n1'
    clear n1'
    have n2 := beq_eq_false_iff_ne.2 n2'
    clear n2'
    have n3 := beq_eq_false_iff_ne.2 n3'
    clear n3'
    go_enter Tryd.func4, Tryd.ntmps4
    go_wp2_with (first
      | (go_at_call 9; refine (cut_small a _ (by omega) hm).mono ?_; rintro e w1 ⟨hb1, (⟨h2, rfl⟩ | ⟨h2, g, hg, rfl, hW⟩)⟩)
      | (go_at_call 7; refine (alive_any _ (hm.imp fun m h => (hb1.cell (p := ⟨0, 0, none⟩) hlt0).trans h)).mono ?_; rintro e w2 ⟨rfl, hb2⟩))
    · go_ret
      exact ⟨rfl, hb1.trans (hb2.mono hb1.size)⟩
    have HOK := Lib.hid (cutE_ok _ 1 (by omega) (by rw [← linesL_is]; exact h2))
    have HCB := Lib.hid (show ((UInt8.ofNat c.toNat).toNat : Int) = c from by simp; omega)
    have HNO := Lib.hid (not_ok c (by omega) (by omega) (by omega) n1 n2)
    have HTEN := Lib.hid (show UInt8.ofNat c.toNat ≠ 10 from fun e => by have h := HCB.out; rw [e] at h; rw [← h] at n3; simp at n3)
    go_loopw [10, 11] (fun n i wr => ∃ k : Nat, k ≤ a.size ∧ i = .int .i64 k ∧ n = .int .i64 (1 + ((a.toList.take k).count 10 : Nat)) ∧ Below w.heap.size w wr) (fun _ i _ => a.size - (intOf i).toNat)
    case atStart => exact ⟨0, Nat.zero_le _, rfl, by simp, hb1⟩
    case round =>
      obtain ⟨k, hk, rfl, rfl, hbr⟩ := hrel
      by_cases hlt : k < a.size
      · have hts := Lib.hid (take_snoc a k hlt)
        have hcnt : (a.toList.take k).count 10 ≤ 4000 := by
          have := List.count_le_length (a := (10 : UInt8)) (l := a.toList.take k)
          rw [List.length_take, len_toList] at this; omega
        by_cases ht : a[k] = 10
        · have hti : ((a[k].toNat : Int) == 10) = true := by rw [ht]; rfl
          go_wp2_with fail
          go_roundw
          case rel => exact ⟨k + 1, by omega, by go_num, int_eq (by rw [hts.out, List.count_append, ht, show List.count (10 : UInt8) [10] = 1 from rfl]; omega), hbr⟩
          case measure => simp [intOf]; omega
        · have hti : ((a[k].toNat : Int) == 10) = false := beq_eq_false_iff_ne.2 (fun h => ht (UInt8.toNat_inj.1 (by have : (10 : UInt8).toNat = 10 := rfl; omega)))
          go_wp2_with fail
          go_roundw
          case rel => exact ⟨k + 1, by omega, by go_num, int_eq (by rw [hts.out, List.count_append, List.count_singleton]; simp [ht]), hbr⟩
          case measure => simp [intOf]; omega
      · have hd : decide ((k : Int) < (a.size : Int)) = false := decide_eq_false (by omega)
        have kc := conv_one
        have ks : (strOfNums [c]).size = 1 := rfl
        have ks2 : (a ++ strOfNums [c]).size = a.size + 1 := by rw [ByteArray.size_append, ks]
        have hmod : c % 256 = c := by omega
        have HF := Lib.hid (show cutE 1 (linesL (a ++ strOfNums [c] ++ b)) = 1 + (a.toList.count 10 : Nat) from by
          rw [linesL_is, three_list]; exact cutE_bad _ HTEN.out HNO.out _ _ _ HOK.out)
        have ht3 := three_size a b c
        have hbm : ∃ m : Int, (wr.alloc (.cells #[.int .u8 c] 5)).cell? ⟨0, 0, none⟩ = some (.int .i64 m) := hm.imp fun m h => ((hbr.alloc hbr.size (.cells #[.int .u8 c] 5)).cell (p := ⟨0, 0, none⟩) hlt0).trans h
        go_wp2_with fail
        refine (cut_small _ _ (by rw [ht3]; omega) hbm).mono ?_
        rw [HF.out]
        rintro e w4 ⟨hb4, (⟨h4, rfl⟩ | ⟨h4, g', hg', rfl, hW'⟩)⟩
        rotate_left
        · omega
        have hb5 := (hbr.alloc hbr.size (.cells #[.int .u8 c] 5)).trans (hb4.mono (by have := hbr.size; simp; omega))
        have hfull : a.toList.take k = a.toList := List.take_of_length_le (by rw [len_toList]; omega)
        rw [hfull]
        clear kc hfull
        go_wp2_with (go_at_call 7; refine (alive_any _ (hm.imp fun m h => (hb5.cell (p := ⟨0, 0, none⟩) hlt0).trans h)).mono ?_; rintro e w6 ⟨rfl, hb6⟩)
        go_ret
        exact ⟨rfl, hb5.trans (hb6.mono hb5.size)⟩
end Go.Proofs.YtjolloolinhlnaaDoor
