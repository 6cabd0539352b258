/-
  The document's own Cut.
-/
import Derived.Test.YtcglbbabfkbcbabDoorWordPass
import Derived.Test.YtcglbbabfkbcbabDoorWordFewK
import Derived.Test.YtcglbbabfkbcbabDoorWordLineOf
import Derived.Deep.DeepCutAuto
import Derived.Laws.BytesArg
import Derived.Laws.Concat
namespace Go.Proofs.YtcglbbabfkbcbabDoor
open Go.RowKit

theorem rstep_ten (r : RSt) : rstep r 10 = ⟨r.out ++ rword r, r.line + 1, 1, [], false⟩ := by unfold rstep; rw [if_pos rfl]
theorem rstep_blank (r : RSt) {c : UInt8} (hc : c ≠ 10) (hb : blankB c.toNat = true) : rstep r c = ⟨r.out ++ rword r, r.line, r.col + 1, [], r.rem⟩ := by unfold rstep; rw [if_neg hc, if_pos hb]
theorem rstep_rem (r : RSt) {c : UInt8} (hc : c ≠ 10) (hb : blankB c.toNat = false) (h1 : r.cur = []) (h2 : r.rem = true) : rstep r c = ⟨r.out, r.line, r.col + 1, [], r.rem⟩ := by
  unfold rstep; rw [if_neg hc, if_neg (by rw [hb]; decide), if_neg (fun h => by rw [h2] at h; cases h.2), if_pos h1]
theorem rstep_35 (r : RSt) (h1 : r.cur = []) (h2 : r.rem = false) : rstep r 35 = ⟨r.out, r.line, r.col + 1, [], true⟩ := by
  unfold rstep; rw [if_neg (by decide), if_neg (by decide), if_pos ⟨h1, h2⟩, if_pos rfl]
theorem rstep_new (r : RSt) {c : UInt8} (hc : c ≠ 10) (hb : blankB c.toNat = false) (h1 : r.cur = []) (h2 : r.rem = false) (h35 : c ≠ 35) : rstep r c = ⟨r.out, r.line, r.col + 1, [c], false⟩ := by
  unfold rstep; rw [if_neg hc, if_neg (by rw [hb]; decide), if_pos ⟨h1, h2⟩, if_neg h35]
theorem rstep_more (r : RSt) {c : UInt8} (hc : c ≠ 10) (hb : blankB c.toNat = false) (h1 : r.cur ≠ []) : rstep r c = ⟨r.out, r.line, r.col + 1, r.cur ++ [c], r.rem⟩ := by
  unfold rstep; rw [if_neg hc, if_neg (by rw [hb]; decide), if_neg (fun h => h1 h.1), if_neg h1]
theorem take_one {l : List UInt8} {k : Nat} {c : UInt8} (hc : l[k]? = some c) : l.take (k + 1) = l.take k ++ [c] := by
  obtain ⟨h, e⟩ := List.getElem?_eq_some_iff.1 hc
  rw [List.take_succ_eq_append_getElem h, e]
theorem ref_next {r r' : RSt} {s0 : RSt} {l : List UInt8} {k : Nat} {c : UInt8} (h : r = rfold s0 (l.take k)) (hc : l[k]? = some c) (e : rstep r c = r') : r' = rfold s0 (l.take (k + 1)) := by
  rw [take_one hc, rfold_append, ← h, ← e]; rfl
theorem ok_next' {l : List UInt8} {k : Nat} {c : UInt8} (h : ∀ x ∈ l.take k, x = 10 ∨ okB x = true) (hc : l[k]? = some c) (e : c = 10 ∨ okB c = true) : ∀ x ∈ l.take (k + 1), x = 10 ∨ okB x = true := by
  rw [take_one hc]
  intro x hx
  rcases List.mem_append.1 hx with hx | hx
  · exact h x hx
  · simp only [List.mem_singleton] at hx; subst hx; exact e
theorem byte_eq {c : UInt8} {n : Nat} (h : (c.toNat : Int) = n) (hn : n < 256) : c = UInt8.ofNat n := by
  apply UInt8.toNat_inj.1; rw [UInt8.toNat_ofNat']; omega
theorem byte_ne {c d : UInt8} (h : ¬ (c.toNat : Int) = d.toNat) : c ≠ d := fun e => h (by rw [e])
theorem rfold_lines : ∀ (l : List UInt8) (r : RSt), (rfold r l).line = r.line + (l.count 10 : Nat)
  | [], r => by simp [rfold]
  | c :: l, r => by
    show (rfold (rstep r c) l).line = _
    rw [rfold_lines l (rstep r c)]
    by_cases hc : c = 10
    · subst hc
      rw [rstep_ten, List.count_cons_self]; simp only; omega
    · have e : (rstep r c).line = r.line := by unfold rstep; rw [if_neg hc]; split <;> (try rfl); split <;> (try split) <;> (try rfl) <;> (split <;> rfl)
      rw [e, List.count_cons_of_ne hc]
theorem cutE_zero : ∀ (l : List UInt8) (n : Int), (∀ x ∈ l, x = 10 ∨ okB x = true) → cutE n (linesOf l) = 0
  | [], n, _ => by simp [linesOf, cutE]
  | c :: l, n, h => by
    by_cases hc : c = 10
    · subst hc
      have e : linesOf (10 :: l) = [] :: linesOf l := by rw [linesOf, if_pos rfl]
      rw [e]
      exact cutE_zero l (n + 1) (fun x hx => h x (by simp [hx]))
    · obtain ⟨z, zs, e1, e2⟩ := linesOf_cons hc l
      have ih := cutE_zero l n (fun x hx => h x (by simp [hx]))
      have hco : okB c = true := (h c (by simp)).resolve_left hc
      rw [e1] at ih
      rw [e2, ← ih]
      show (if (c :: z).all okB = true then cutE (n + 1) zs else n) = (if z.all okB = true then cutE (n + 1) zs else n)
      simp [hco]
theorem ref_bad_line {s : ByteArray} {k : Nat} {c : UInt8} {r : RSt} (hr : r = rfold ⟨[], 1, 1, [], false⟩ ((s.toList ++ [10]).take k)) (hc : (s.toList ++ [10])[k]? = some c) (hne : c ≠ 10) (hno : okB c = false)
    (hok : ∀ x ∈ (s.toList ++ [10]).take k, x = 10 ∨ okB x = true) (hk : k ≤ s.size) : cutE 1 (linesL s) = r.line := by
  have hk2 : k < s.toList.length := by
    rcases Nat.lt_or_ge k s.toList.length with h | h
    · exact h
    · exfalso
      rw [List.getElem?_append_right h] at hc
      rw [len_toList] at hc h
      rw [show k - s.size = 0 by omega] at hc
      exact hne (by simpa using hc.symm)
  have e : (s.toList ++ [10]).take k = s.toList.take k := List.take_append_of_le_length (by omega)
  rw [e] at hr hok
  rw [List.getElem?_append_left hk2] at hc
  obtain ⟨_, hc2⟩ := List.getElem?_eq_some_iff.1 hc
  have es : s.toList = s.toList.take k ++ c :: s.toList.drop (k + 1) := by
    conv => lhs; rw [← List.take_append_drop k s.toList]
    rw [List.drop_eq_getElem_cons hk2, hc2]
  rw [linesL_is, es, cutE_bad c hne hno _ _ 1 hok, hr, rfold_lines]
theorem ref_end {s : ByteArray} {k : Nat} {r : RSt} (hr : r = rfold ⟨[], 1, 1, [], false⟩ ((s.toList ++ [10]).take k)) (hok : ∀ x ∈ (s.toList ++ [10]).take k, x = 10 ∨ okB x = true) (hk : s.size + 1 ≤ k) :
    r.out = cutW 1 (linesL s) ∧ cutE 1 (linesL s) = 0 := by
  have e : (s.toList ++ [10]).take k = s.toList ++ [10] := List.take_of_length_le (by rw [List.length_append, len_toList]; simpa using hk)
  rw [e] at hr hok
  obtain ⟨n', h⟩ := rfold_text _ s.toList [] 1 (Nat.le_refl _)
  rw [hr, h, linesL_is]
  exact ⟨by simp, cutE_zero _ 1 (fun x hx => hok x (by simp [hx]))⟩
theorem info_ref : (Tryd.prog.info? 48).map (fun i => (i.zero, i.size, i.bytes)) = some (some (.agg #[.string ByteArray.empty, .int .i64 0, .int .i64 0]), 3, 32) := by kernel_rfl
theorem ref_word {s : ByteArray} {k b : Nat} {cur : List UInt8} (hk : k ≤ s.size) (hb : b < k) (h : cur = ((s.toList ++ [10]).take k).drop b) : s.extract b k = ⟨cur.toArray⟩ ∧ cur.length = k - b := by
  have e : (s.toList ++ [10]).take k = s.toList.take k := List.take_append_of_le_length (by rw [len_toList]; exact hk)
  rw [e] at h
  subst h
  exact ⟨extract_is s b k, by rw [List.length_drop, List.length_take, len_toList]; omega⟩
def RefAt (w : World) (s : ByteArray) (k : Nat) (vo vl vc va vr : Value) (wr : World) : Prop :=
  ∃ (r : RSt) (at_ : Int), r = rfold ⟨[], 1, 1, [], false⟩ ((s.toList ++ [10]).take k) ∧ vl = .int .i64 r.line ∧ vc = .int .i64 r.col ∧ va = .int .i64 at_ ∧ vr = .bool r.rem ∧
    ((r.cur = [] ∧ at_ = -1) ∨ (r.cur ≠ [] ∧ 0 ≤ at_ ∧ at_.toNat < k ∧ r.cur = ((s.toList ++ [10]).take k).drop at_.toNat)) ∧
    wr.ownsRow w.heap.size 48 3 vo r.out.length (wrow r.out) ∧ Below w.heap.size w wr ∧
    (∀ x ∈ (s.toList ++ [10]).take k, x = 10 ∨ okB x = true) ∧ 1 ≤ r.line ∧ r.line ≤ k + 1 ∧ 1 ≤ r.col ∧ r.col ≤ k + 1 ∧ r.out.length ≤ k
/-- What the document's own Cut answers. -/
def RefSays (s : ByteArray) (w : World) (e : Ending) (w' : World) : Prop :=
  Below w.heap.size w w' ∧
      ((4000 < s.size ∧ e = .returned (.tuple #[.slice none 0 0, .int .i64 2, .int .i64 0])) ∨
       (s.size ≤ 4000 ∧ cutE 1 (linesL s) ≠ 0 ∧ e = .returned (.tuple #[.slice none 0 0, .int .i64 22, .int .i64 (cutE 1 (linesL s))])) ∨
       (s.size ≤ 4000 ∧ cutE 1 (linesL s) = 0 ∧ ∃ v, e = .returned (.tuple #[v, .int .i64 0, .int .i64 0]) ∧ w'.ownsRow w.heap.size 48 3 v (cutW 1 (linesL s)).length (wrow (cutW 1 (linesL s)))))
set_option maxRecDepth 100000 in
set_option maxHeartbeats 4000000 in
theorem refCut_any (s : ByteArray) (w : World) (hs : s.size ≤ maxLen) :
    Calls Tryd.prog 5 #[.string s] w (RefSays s w) := by
  unfold maxLen at hs
  by_cases h4 : 4000 < s.size
  · go_enter Tryd.func5, Tryd.ntmps5
    go_wp2_with fail
    go_ret3
    exact ⟨Below.refl _ _, .inl ⟨h4, rfl⟩⟩
  · obtain ⟨i0, hi, hz0, hz1, hz2⟩ := info_parts info_ref
    go_enter Tryd.func5, Tryd.ntmps5
    go_wp2_with fail
    go_loopw [5, 6, 7, 8, 9, 10] (fun vo vl vc va vr vi wr => ∃ k : Nat, k ≤ s.size + 1 ∧ vi = .int .i64 k ∧ RefAt w s k vo vl vc va vr wr) (fun _ _ _ _ _ vi _ => s.size + 1 - (intOf vi).toNat)
    case atStart => exact ⟨0, Nat.zero_le _, rfl, ⟨⟨[], 1, 1, [], false⟩, -1, rfl, rfl, rfl, rfl, rfl, .inl ⟨rfl, rfl⟩, World.ownsRow_nil _ _ _ _, Below.refl _ _, by simp, by simp, by simp, by simp, by simp, by simp⟩⟩
    case round =>
      obtain ⟨k, hk, rfl, ⟨ro, rl, rc, rcur, rrem⟩, at_, hr, rfl, rfl, rfl, rfl, hat, hown, hbel, hok, hl1, hl2, hc1, hc2, hol⟩ := hrel
      have HR := Lib.hid hr
      have HOK := Lib.hid hok
      simp only at hat hown hl1 hl2 hc1 hc2 hol
      simp only
      clear hr hok
      obtain ⟨A0, cp0, rfl, _, _⟩ := own_slice hown
      by_cases hlt : k < s.size + 1
      · obtain ⟨c, hc⟩ : ∃ c : UInt8, (s.toList ++ [10])[k]? = some c := ⟨_, List.getElem?_eq_getElem (by rw [List.length_append, len_toList]; simpa using hlt)⟩
        have hle : (k : Int) ≤ (s.size : Int) := by omega
        go_upto_if 24 with fail
        go_cut [11] (fun v11 wx => v11 = .int .u8 c.toNat ∧ wx = wr)
        case first =>
          by_cases h2 : k < s.size
          · have : c = s[k] := by rw [List.getElem?_append_left (by rw [len_toList]; exact h2), get_toList s k h2] at hc; exact (Option.some.inj hc).symm
            subst this
            go_wp2_with fail
            go_meet
            exact ⟨rfl, rfl⟩
          · have : c = 10 := by rw [List.getElem?_append_right (by rw [len_toList]; omega), len_toList, show k - s.size = 0 by omega] at hc; simpa using hc.symm
            subst this
            have hd : decide ((k : Int) < (s.size : Int)) = false := decide_eq_false (by omega)
            go_wp2_with fail
            go_meet
            exact ⟨rfl, rfl⟩
        case rest =>
          obtain ⟨rfl, rfl⟩ := hcut
          obtain ⟨ci, hci⟩ : ∃ ci : Int, ci = c.toNat := ⟨_, rfl⟩
          have hcr : 0 ≤ ci ∧ ci < 256 := by have := c.toNat_lt; omega
          rw [← hci]
          have HCI := Lib.hid hci
          clear hci
          have hks1 : k ≤ s.size := by omega
          by_cases e10 : ci = 10
          · have b10 : (ci == 10) = true := beq_iff_eq.2 e10
            have n10 : (ci != 10) = false := by simp [e10]
            have h32 : ci ≤ 32 := by omega
            have hct : c = 10 := byte_eq (n := 10) (by rw [← HCI.out]; exact e10) (by decide)
            have HCT := Lib.hid hct
            clear e10 hct
            rcases hat with ⟨g1, g2⟩ | ⟨g1, g2, g3, g4⟩
            · subst g2
              have HG1 := Lib.hid g1
              clear g1
              go_wp2_with fail
              go_roundw
              case rel => exact ⟨k + 1, by omega, by go_num, ⟨ro, rl + 1, 1, [], false⟩, -1, ref_next HR.out hc (by rw [HCT.out, rstep_ten, rword_nil HG1.out, List.append_nil]), rfl, rfl, rfl, rfl, .inl ⟨rfl, rfl⟩, hown, hbel, ok_next' HOK.out hc (.inl HCT.out), by simp only; omega, by simp only; omega, by simp only; omega, by simp only; omega, by simp only; omega⟩
              case measure => simp [intOf]; omega
            · have hna : ¬ at_ < 0 := by omega
              have HAT := Lib.hid (ref_word (by omega) g3 g4)
              have HG1 := Lib.hid g1
              have HG4 := Lib.hid g4
              clear g1 g4
              obtain ⟨b, rfl⟩ : ∃ b : Nat, at_ = b := ⟨at_.toNat, by omega⟩
              simp only [Int.toNat_natCast] at g3 HAT HG4
              have hbk : (b : Int) ≤ (k : Int) := by omega
              have hks : (k : Int) ≤ (s.size : Int) := by omega
              have hw1 : IntKind.i64.wrap ((k : Int) - b) = (k : Int) - b := IntWalk.i64_in _ (by omega)
              have hw2 : IntKind.i64.wrap (rc - ((k : Int) - b)) = rc - ((k : Int) - b) := IntWalk.i64_in _ (by omega)
              have hwr : rword ⟨ro, rl, rc, rcur, rrem⟩ = [⟨rcur, rl, rc - ((k : Int) - b)⟩] := by
                unfold rword; rw [if_neg HG1.out, HAT.out.2]; simp; omega
              have HWR := Lib.hid hwr
              clear hwr
              go_wp2_with (at_builtin; refine wpList_append_own _ rfl _ _ 24 rfl w.heap.size 48 i0 (.agg #[.string ByteArray.empty, .int .i64 0, .int .i64 0]) 3 32 Tryd.underlying24 hi hz0 hz1 hz2 rfl (by decide) _ _ _ rfl (hown.alloc _) ⟨_, 0, none⟩ 1 1 [.string (s.extract b k), .int .i64 rl, .int .i64 (rc - ((k : Int) - b))] rfl rfl (cell_three_new _ _ _ _ _) ?c2 ?c3 ?c4 ?c5 ?_
                           case c2 => intro u hu; simp at hu; rcases hu with rfl | rfl | rfl <;> rfl
                           case c3 => unfold maxLen; omega
                           case c4 => omega
                           case c5 => have := hbel.size; simp; omega
                           skip)
              intro v' w3 hown3 hgrow3 _
              have hb3 := (hbel.alloc hbel.size _).grown hgrow3 (by have := hbel.size; simp; omega) (fun j hj => (hown.lt j hj).1)
              clear hgrow3
              have hrow : wrow (ro ++ rword ⟨ro, rl, rc, rcur, rrem⟩) = wrow ro ++ [.string (s.extract b k), .int .i64 rl, .int .i64 (rc - ((k : Int) - b))] := by
                rw [HWR.out, wrow_append, HAT.out.1]; rfl
              have hlen : (ro ++ rword ⟨ro, rl, rc, rcur, rrem⟩).length = ro.length + 1 := by rw [HWR.out]; simp
              rw [← hrow, ← hlen] at hown3
              have HLEN := Lib.hid hlen
              clear hrow hlen
              go_wp2_with fail
              go_roundw
              case rel => exact ⟨k + 1, by omega, by go_num, ⟨ro ++ rword ⟨ro, rl, rc, rcur, rrem⟩, rl + 1, 1, [], false⟩, -1, ref_next HR.out hc (by rw [HCT.out, rstep_ten]), rfl, rfl, rfl, rfl, .inl ⟨rfl, rfl⟩, hown3, hb3, ok_next' HOK.out hc (.inl HCT.out), by simp only; omega, by simp only; omega, by simp only; omega, by simp only; omega, by simp only; rw [HLEN.out]; omega⟩
              case measure => simp [intOf]; omega
          · have b10 : (ci == 10) = false := beq_eq_false_iff_ne.2 e10
            have n10 : (ci != 10) = true := bne_iff_ne.2 e10
            have HCN := Lib.hid (show c ≠ 10 from byte_ne (by rw [← HCI.out]; exact e10))
            by_cases ebl : ci = 32 ∨ ci = 9
            · have h32 : ci ≤ 32 := by omega
              have HB := Lib.hid (show blankB c.toNat = true from by rw [← HCI.out]; exact decide_eq_true ebl)
              have HOKC := Lib.hid (show okB c = true from by unfold okB; rw [HB.out]; rfl)
              obtain ⟨n329⟩ : Nonempty ((ci != 32) = false ∨ ((ci != 32) = true ∧ (ci != 9) = false)) := ⟨by
                rcases ebl with h | h
                · exact .inl (by simp [h])
                · exact .inr ⟨by simp [h], by simp [h]⟩⟩
              clear ebl
              rcases hat with ⟨g1, g2⟩ | ⟨g1, g2, g3, g4⟩
              · subst g2
                have HG1 := Lib.hid g1
                clear g1
                rcases n329 with n32 | ⟨n32, n9⟩
                all_goals
                  go_wp2_with fail
                  go_roundw
                  case rel => exact ⟨k + 1, by omega, by go_num, ⟨ro, rl, rc + 1, [], rrem⟩, -1, ref_next HR.out hc ((rstep_blank _ HCN.out HB.out).trans (by rw [rword_nil HG1.out, List.append_nil])), rfl, rfl, rfl, rfl, .inl ⟨rfl, rfl⟩, hown, hbel, ok_next' HOK.out hc (.inr HOKC.out), by simp only; omega, by simp only; omega, by simp only; omega, by simp only; omega, by simp only; omega⟩
                  case measure => simp [intOf]; omega
              · have hna : ¬ at_ < 0 := by omega
                have HAT := Lib.hid (ref_word (by omega) g3 g4)
                have HG1 := Lib.hid g1
                have HG4 := Lib.hid g4
                clear g1 g4
                obtain ⟨b, rfl⟩ : ∃ b : Nat, at_ = b := ⟨at_.toNat, by omega⟩
                simp only [Int.toNat_natCast] at g3 HAT HG4
                have hbk : (b : Int) ≤ (k : Int) := by omega
                have hks : (k : Int) ≤ (s.size : Int) := by omega
                have hw1 : IntKind.i64.wrap ((k : Int) - b) = (k : Int) - b := IntWalk.i64_in _ (by omega)
                have hw2 : IntKind.i64.wrap (rc - ((k : Int) - b)) = rc - ((k : Int) - b) := IntWalk.i64_in _ (by omega)
                have hwr : rword ⟨ro, rl, rc, rcur, rrem⟩ = [⟨rcur, rl, rc - ((k : Int) - b)⟩] := by
                  unfold rword; rw [if_neg HG1.out, HAT.out.2]; simp; omega
                have HWR := Lib.hid hwr
                clear hwr
                rcases n329 with n32 | ⟨n32, n9⟩
                all_goals
                  go_wp2_with (at_builtin; refine wpList_append_own _ rfl _ _ 24 rfl w.heap.size 48 i0 (.agg #[.string ByteArray.empty, .int .i64 0, .int .i64 0]) 3 32 Tryd.underlying24 hi hz0 hz1 hz2 rfl (by decide) _ _ _ rfl (hown.alloc _) ⟨_, 0, none⟩ 1 1 [.string (s.extract b k), .int .i64 rl, .int .i64 (rc - ((k : Int) - b))] rfl rfl (cell_three_new _ _ _ _ _) ?c2 ?c3 ?c4 ?c5 ?_
                               case c2 => intro u hu; simp at hu; rcases hu with rfl | rfl | rfl <;> rfl
                               case c3 => unfold maxLen; omega
                               case c4 => omega
                               case c5 => have := hbel.size; simp; omega
                               skip)
                  intro v' w3 hown3 hgrow3 _
                  have hb3 := (hbel.alloc hbel.size _).grown hgrow3 (by have := hbel.size; simp; omega) (fun j hj => (hown.lt j hj).1)
                  clear hgrow3
                  have hrow : wrow (ro ++ rword ⟨ro, rl, rc, rcur, rrem⟩) = wrow ro ++ [.string (s.extract b k), .int .i64 rl, .int .i64 (rc - ((k : Int) - b))] := by
                    rw [HWR.out, wrow_append, HAT.out.1]; rfl
                  have hlen : (ro ++ rword ⟨ro, rl, rc, rcur, rrem⟩).length = ro.length + 1 := by rw [HWR.out]; simp
                  rw [← hrow, ← hlen] at hown3
                  have HLEN := Lib.hid hlen
                  clear hrow hlen
                  go_wp2_with fail
                  go_roundw
                  case rel => exact ⟨k + 1, by omega, by go_num, ⟨ro ++ rword ⟨ro, rl, rc, rcur, rrem⟩, rl, rc + 1, [], rrem⟩, -1, ref_next HR.out hc (rstep_blank _ HCN.out HB.out), rfl, rfl, rfl, rfl, .inl ⟨rfl, rfl⟩, hown3, hb3, ok_next' HOK.out hc (.inr HOKC.out), by simp only; omega, by simp only; omega, by simp only; omega, by simp only; omega, by simp only; rw [HLEN.out]; omega⟩
                  case measure => simp [intOf]; omega
            · have n32 : (ci != 32) = true := bne_iff_ne.2 (fun h => ebl (.inl h))
              have n9 : (ci != 9) = true := bne_iff_ne.2 (fun h => ebl (.inr h))
              have HB := Lib.hid (show blankB c.toNat = false from by rw [← HCI.out]; exact decide_eq_false ebl)
              clear ebl
              by_cases lo : ci < 33
              · have HE := Lib.hid (ref_bad_line HR.out hc HCN.out (by unfold okB; rw [HB.out, ← HCI.out]; exact decide_eq_false (by have := bne_iff_ne.1 n32; omega)) HOK.out hks1)
                go_wp2_with fail
                go_ret3
                exact ⟨hbel, .inr (.inl ⟨by omega, by rw [HE.out]; omega, by rw [HE.out]; rfl⟩)⟩
              · by_cases hi : 126 < ci
                · have HE := Lib.hid (ref_bad_line HR.out hc HCN.out (by unfold okB; rw [HB.out, ← HCI.out]; exact decide_eq_false (by omega)) HOK.out hks1)
                  go_wp2_with fail
                  go_ret3
                  exact ⟨hbel, .inr (.inl ⟨by omega, by rw [HE.out]; omega, by rw [HE.out]; rfl⟩)⟩
                · have h32 : ¬ ci ≤ 32 := by omega
                  have HOKC := Lib.hid (show okB c = true from by unfold okB; rw [HB.out, ← HCI.out]; exact decide_eq_true (by omega))
                  rcases hat with ⟨g1, g2⟩ | ⟨g1, g2, g3, g4⟩
                  · subst g2
                    have HG1 := Lib.hid g1
                    clear g1
                    cases hrem : rrem
                    · by_cases e35 : ci = 35
                      · have b35 : (ci == 35) = true := beq_iff_eq.2 e35
                        have HCT := Lib.hid (show c = 35 from byte_eq (n := 35) (by rw [← HCI.out]; exact e35) (by decide))
                        clear e35
                        go_wp2_with fail
                        go_roundw
                        case rel => exact ⟨k + 1, by omega, by go_num, ⟨ro, rl, rc + 1, [], true⟩, -1, ref_next HR.out hc (by rw [HCT.out, rstep_35 _ HG1.out hrem]), rfl, rfl, rfl, rfl, .inl ⟨rfl, rfl⟩, hown, hbel, ok_next' HOK.out hc (.inr HOKC.out), by simp only; omega, by simp only; omega, by simp only; omega, by simp only; omega, by simp only; omega⟩
                        case measure => simp [intOf]; omega
                      · have b35 : (ci == 35) = false := beq_eq_false_iff_ne.2 e35
                        have HCT := Lib.hid (show c ≠ 35 from byte_ne (by rw [← HCI.out]; exact e35))
                        go_wp2_with fail
                        go_roundw
                        case rel => exact ⟨k + 1, by omega, by go_num, ⟨ro, rl, rc + 1, [c], false⟩, k, ref_next HR.out hc (rstep_new _ HCN.out HB.out HG1.out hrem HCT.out), rfl, rfl, rfl, rfl, .inr ⟨by simp, by omega, by simp, by rw [take_one hc, Int.toNat_natCast, List.drop_append_of_le_length (by rw [List.length_take, List.length_append, len_toList]; simp; omega), List.drop_of_length_le (by rw [List.length_take]; omega)]; rfl⟩, hown, hbel, ok_next' HOK.out hc (.inr HOKC.out), by simp only; omega, by simp only; omega, by simp only; omega, by simp only; omega, by simp only; omega⟩
                        case measure => simp [intOf]; omega
                    · go_wp2_with fail
                      go_roundw
                      case rel => exact ⟨k + 1, by omega, by go_num, ⟨ro, rl, rc + 1, [], true⟩, -1, ref_next HR.out hc ((rstep_rem _ HCN.out HB.out HG1.out hrem).trans (by rw [hrem])), rfl, rfl, rfl, rfl, .inl ⟨rfl, rfl⟩, hown, hbel, ok_next' HOK.out hc (.inr HOKC.out), by simp only; omega, by simp only; omega, by simp only; omega, by simp only; omega, by simp only; omega⟩
                      case measure => simp [intOf]; omega
                  · have hna : ¬ at_ < 0 := by omega
                    have HG1 := Lib.hid g1
                    have HG4 := Lib.hid g4
                    clear g1 g4
                    go_wp2_with fail
                    go_roundw
                    case rel => exact ⟨k + 1, by omega, by go_num, ⟨ro, rl, rc + 1, rcur ++ [c], rrem⟩, at_, ref_next HR.out hc (rstep_more _ HCN.out HB.out HG1.out), rfl, rfl, rfl, rfl, .inr ⟨by simp, g2, by omega, by rw [take_one hc, List.drop_append_of_le_length (by rw [List.length_take, List.length_append, len_toList]; simp; omega), ← HG4.out]⟩, hown, hbel, ok_next' HOK.out hc (.inr HOKC.out), by simp only; omega, by simp only; omega, by simp only; omega, by simp only; omega, by simp only; omega⟩
                    case measure => simp [intOf]; omega
      · have hd : decide ((k : Int) ≤ (s.size : Int)) = false := decide_eq_false (by omega)
        have HZ := Lib.hid (ref_end HR.out HOK.out (by omega))
        go_wp2_with fail
        go_ret3
        refine ⟨hbel, .inr (.inr ⟨by omega, HZ.out.2, _, rfl, ?_⟩)⟩
        rw [← HZ.out.1]; exact hown
end Go.Proofs.YtcglbbabfkbcbabDoor
