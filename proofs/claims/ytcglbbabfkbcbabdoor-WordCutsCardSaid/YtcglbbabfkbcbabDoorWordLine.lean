/-
  word.line: a line is cut into its words.
-/
import Derived.Test.YtcglbbabfkbcbabDoorWordPlain
import Derived.Test.YtcglbbabfkbcbabDoorMem
import Derived.WalkSpells
import Derived.WalkLawsBesides
import Derived.Lib.Hide
import Derived.Outline
import Derived.Deep.QuietTactic
import Derived.BigQuiet
import Derived.IntWalk
namespace Go.Proofs.YtcglbbabfkbcbabDoor
open Go.RowKit

set_option maxHeartbeats 400000 in
theorem blank_any (c : Int) (w : World) : Calls Tryd.prog 52 #[.int .u8 c] w fun e w' => e = .returned (.bool (blankB c)) ∧ w = w' := by
  by_cases a : c = 32 <;> by_cases b : c = 9
  all_goals
    have HB := Lib.hid (show blankB c = decide (c = 32 ∨ c = 9) from rfl)
    go_enter Tryd.func52, Tryd.ntmps52
    go_wp2
    go_ret
    refine ⟨ret_bool ?_, rfl⟩
    rw [show blankB _ = decide (_ ∨ _) from rfl]
    simp [a, b]
set_option maxHeartbeats 400000 in
theorem wletter_any (c : Int) (w : World) : Calls Tryd.prog 53 #[.int .u8 c] w fun e w' => e = .returned (.bool (wletterB c)) ∧ w = w' := by
  by_cases a : 32 < c <;> by_cases b : c < 127
  all_goals
    go_enter Tryd.func53, Tryd.ntmps53
    go_wp2
    go_ret
    refine ⟨ret_bool ?_, rfl⟩
    rw [show wletterB _ = decide (_ ∧ _) from rfl]
    simp [a, b]

def wcells (x : Wd) : List Value := [.string ⟨x.text.toArray⟩, .int .i64 x.line, .int .i64 x.col]
def wrow (l : List Wd) : List Value := l.flatMap wcells
theorem wrow_len (l : List Wd) : (wrow l).length = l.length * 3 := by
  induction l with
  | nil => rfl
  | cons x r ih => simp [wrow, wcells] at ih ⊢; omega
theorem wrow_append (l k : List Wd) : wrow (l ++ k) = wrow l ++ wrow k := by simp [wrow]
theorem wrow_get (l : List Wd) (j : Nat) (h : j < l.length) : (wrow l)[j * 3]? = some (.string ⟨(l[j]).text.toArray⟩) ∧ (wrow l)[j * 3 + 1]? = some (.int .i64 l[j].line) ∧ (wrow l)[j * 3 + 2]? = some (.int .i64 l[j].col) := by
  induction l generalizing j with
  | nil => simp at h
  | cons x r ih =>
    cases j with
    | zero => exact ⟨rfl, rfl, rfl⟩
    | succ j =>
      have h1 := ih j (by simpa using h)
      have e : wrow (x :: r) = wcells x ++ wrow r := rfl
      have g : ∀ i, (wcells x ++ wrow r)[3 + i]? = (wrow r)[i]? := fun i => by
        rw [List.getElem?_append_right (by simp [wcells])]
        simp [wcells]
      rw [e, show (j + 1) * 3 = 3 + j * 3 by omega, show 3 + j * 3 + 1 = 3 + (j * 3 + 1) by omega, show 3 + j * 3 + 2 = 3 + (j * 3 + 2) by omega, g, g, g]
      simpa using h1
theorem wrow_set (p : List Wd) (x : Wd) (t : List UInt8) : (wrow (p ++ [x])).set (p.length * 3) (.string ⟨t.toArray⟩) = wrow (p ++ [⟨t, x.line, x.col⟩]) := by
  rw [wrow_append, wrow_append, ← wrow_len, List.set_append_right _ _ (Nat.le_refl _)]
  simp [wrow, wcells]
theorem extract_is (s : ByteArray) (b e : Nat) : s.extract b e = ⟨((s.toList.take e).drop b).toArray⟩ := by
  apply ByteArray.ext
  apply Array.ext'
  rw [ByteArray.toList_eq]
  simp [List.drop_take]
/-- Where the open word begins; -1: none is open. -/
def Begun (n : Int) (l : List UInt8) (bg : Int) : Prop := ((lst n l).op = false ∧ bg = -1) ∨ ((lst n l).op = true ∧ ∃ (p : List Wd) (x : Wd), (lst n l).out = p ++ [x] ∧ 0 ≤ bg ∧ bg.toNat < l.length ∧ x.text = l.drop bg.toNat)
theorem begun_nil (n : Int) : Begun n [] (-1) := .inl ⟨rfl, rfl⟩
theorem begun_blank {n : Int} {l : List UInt8} {c : UInt8} (h : blankB c.toNat = true) : Begun n (l ++ [c]) (-1) ∧ (lst n (l ++ [c])).out = (lst n l).out := by
  have e : lst n (l ++ [c]) = ⟨(lst n l).out, false, (lst n l).i + 1⟩ := by rw [lst_snoc]; unfold lstep; rw [if_pos h]
  exact ⟨.inl ⟨by rw [e], rfl⟩, by rw [e]⟩
theorem begun_new {n : Int} {l : List UInt8} {c : UInt8} (h : blankB c.toNat = false) (ho : (lst n l).op = false) : Begun n (l ++ [c]) l.length ∧ (lst n (l ++ [c])).out = (lst n l).out ++ [⟨[c], n, (l.length : Int) + 1⟩] := by
  have e : lst n (l ++ [c]) = ⟨(lst n l).out ++ [⟨[c], n, (l.length : Int) + 1⟩], true, (lst n l).i + 1⟩ := by
    rw [lst_snoc]; unfold lstep; rw [if_neg (by rw [h]; decide), if_neg (by rw [ho]; decide), lst_i]
  refine ⟨.inr ⟨by rw [e], (lst n l).out, ⟨[c], n, (l.length : Int) + 1⟩, by rw [e], by omega, by simp, ?_⟩, by rw [e]⟩
  simp
theorem begun_ext {n : Int} {l : List UInt8} {c : UInt8} {bg : Int} (h : blankB c.toNat = false) {p : List Wd} {x : Wd} (ho : (lst n l).op = true) (h1 : (lst n l).out = p ++ [x]) (h2 : 0 ≤ bg) (h3 : bg.toNat < l.length) (h4 : x.text = l.drop bg.toNat) :
    Begun n (l ++ [c]) bg ∧ (lst n (l ++ [c])).out = p ++ [⟨(l ++ [c]).drop bg.toNat, x.line, x.col⟩] := by
  have e : lst n (l ++ [c]) = ⟨p ++ [⟨x.text ++ [c], x.line, x.col⟩], true, (lst n l).i + 1⟩ := by
    rw [lst_snoc]; unfold lstep; rw [if_neg (by rw [h]; decide), if_pos ho, h1, extLast_snoc]
  have e2 : x.text ++ [c] = (l ++ [c]).drop bg.toNat := by rw [h4, List.drop_append_of_le_length (by omega)]
  rw [e2] at e
  exact ⟨.inr ⟨by rw [e], p, _, by rw [e], h2, by simp; omega, rfl⟩, by rw [e]⟩
theorem extract_one (s : ByteArray) (k : Nat) (h : k < s.size) : s.extract k (k + 1) = ⟨[s[k]].toArray⟩ := by
  rw [extract_is, take_snoc s k h, List.drop_append_of_le_length (by rw [List.length_take, len_toList]; omega), List.drop_of_length_le (by rw [List.length_take]; omega)]; rfl
theorem own_slice {w : World} {base : Nat} {e : TypeId} {size : Nat} {v : Value} {n : Nat} {xs : List Value} (h : w.ownsRow base e size v n xs) : ∃ A c, v = .slice A n c ∧ n ≤ c ∧ Sl w A xs := by
  rcases h.2 with ⟨rfl, he⟩ | ⟨g, cap, cur, rfl, _, hg, hc, _, _, ht⟩
  · subst he
    have : xs = [] := List.eq_nil_of_length_eq_zero (by rw [h.1]; simp)
    subst this
    exact ⟨none, 0, rfl, Nat.le_refl _, Sl.nil _ _⟩
  · exact ⟨some ⟨g, 0, none⟩, cap, rfl, hc, ⟨fun _ => ⟨g, 0, rfl, lt_of_block hg, fun j u hu => by
      have hj : j < n * size := by rw [← h.1]; exact (List.getElem?_eq_some_iff.1 hu).1
      rw [Nat.zero_add, h.cellAt j hj]; exact hu⟩⟩⟩
theorem remark_first (x : Wd) (tb : ByteArray) (ht : tb = ⟨x.text.toArray⟩) (h : x.text ≠ []) : ∃ hp : 0 < tb.size, notRemark x = !(((tb[0]'hp).toNat : Int) == 35) := by
  subst ht
  obtain ⟨t, ln, cl⟩ := x
  match t, h with
  | c :: r, _ =>
    refine ⟨by simp [ByteArray.size], ?_⟩
    have e : (⟨(c :: r).toArray⟩ : ByteArray)[0]'(by simp [ByteArray.size]) = c := rfl
    rw [e]
    unfold notRemark
    simp only [List.head?_cons]
    rw [Bool.eq_iff_iff]
    simp
    constructor
    · intro h1 h2; exact h1 (UInt8.toNat_inj.1 (by have : (35 : UInt8).toNat = 35 := rfl; omega))
    · rintro h1 rfl; exact h1 (by decide)
theorem own_prefix {w : World} {base : Nat} {e : TypeId} {size : Nat} {A : Option Addr} {n c j : Nat} {xs : List Value} (h : w.ownsRow base e size (.slice A n c) n xs) (hj : j ≤ n) (hA : A ≠ none) : w.ownsRow base e size (.slice A j c) j (xs.take (j * size)) := by
  have hjs : j * size ≤ n * size := Nat.mul_le_mul_right _ hj
  refine ⟨by rw [List.length_take, h.1]; omega, ?_⟩
  rcases h.2 with ⟨e1, _⟩ | ⟨g, cap, cur, e1, hb, hg, hn, hm, hs, ht⟩
  · injection e1 with e1; exact absurd e1 hA
  · injection e1 with e1 _ e3
    subst e1 e3
    exact .inr ⟨g, c, cur, rfl, hb, hg, by omega, hm, hs, by rw [← ht, List.take_take, Nat.min_eq_left hjs]⟩
theorem wrow_take (l : List Wd) (j : Nat) (h : j ≤ l.length) : (wrow l).take (j * 3) = wrow (l.take j) := by
  have e : wrow l = wrow (l.take j) ++ wrow (l.drop j) := by rw [← wrow_append, List.take_append_drop]
  have hl : (wrow (l.take j)).length = j * 3 := by rw [wrow_len, List.length_take, Nat.min_eq_left h]
  rw [e, List.take_append_of_le_length (by omega), ← hl, List.take_length]
theorem own_below {w w' : World} {base : Nat} {e : TypeId} {size : Nat} {v : Value} {n : Nat} {xs : List Value} (h : w.ownsRow base e size v n xs) (hb : Below w.heap.size w w') : w'.ownsRow base e size v n xs :=
  h.kept ⟨hb.os, hb.tape, hb.output, hb.size, fun i hi _ => hb.block i hi⟩ (Classical.em (v.ownBlock = none))
theorem all_next' {p : Wd → Bool} {l : List Wd} {j : Nat} (h : j < l.length) (ha : (l.take j).all p = true) (hp : p l[j] = true) : (l.take (j + 1)).all p = true := by
  rw [List.take_succ_eq_append_getElem h, List.all_append, ha]; simp [hp]
/-- What line answers. -/
def LineSays (n : Int) (l : List UInt8) (w : World) (e : Ending) (w' : World) : Prop :=
  (l.all okB = true ∧ ∃ v, e = .returned (.tuple #[v, .bool true]) ∧ w'.ownsRow w.heap.size 44 3 v (lineWords n l).length (wrow (lineWords n l)) ∧ Below w.heap.size w w') ∨
  (l.all okB = false ∧ e = .returned (.tuple #[.slice none 0 0, .bool false]) ∧ Below w.heap.size w w')
theorem info_word : (Tryd.prog.info? 44).map (fun i => (i.zero, i.size, i.bytes)) = some (some (.agg #[.string ByteArray.empty, .int .i64 0, .int .i64 0]), 3, 32) := by kernel_rfl
theorem ok_not {s : ByteArray} {k : Nat} (h : k < s.size) (hb : okB s[k] = false) : s.toList.all okB = false := by
  cases hh : s.toList.all okB
  · rfl
  · rw [List.all_eq_true] at hh
    have := hh _ (List.mem_of_getElem? (get_toList s k h)); rw [hb] at this; cases this
theorem ok_next {s : ByteArray} {k : Nat} (h : k < s.size) (ha : (s.toList.take k).all okB = true) (hb : okB s[k] = true) : (s.toList.take (k + 1)).all okB = true := by
  rw [take_snoc s k h, List.all_append, ha]; simp [hb]
set_option maxRecDepth 100000 in
set_option maxHeartbeats 4000000 in
theorem line_any (s : ByteArray) (n : Int) (w : World) (hs : s.size ≤ 1000000) (_hn : 0 ≤ n ∧ n ≤ 1000000) :
    Calls Tryd.prog 16 #[.string s, .int .i64 n] w (LineSays n s.toList w) := by
  obtain ⟨i0, hi, hz0, hz1, hz2⟩ := info_parts info_word
  go_enter Tryd.func16, Tryd.ntmps16
  go_wp2
  go_loopw [6, 7, 14] (fun v b i wr => ∃ (k : Nat) (bg : Int), k ≤ s.size ∧ i = .int .i64 k ∧ b = .int .i64 bg ∧ Begun n (s.toList.take k) bg ∧ (s.toList.take k).all okB = true ∧
      wr.ownsRow w.heap.size 44 3 v (lst n (s.toList.take k)).out.length (wrow (lst n (s.toList.take k)).out) ∧ Below w.heap.size w wr) (fun _ _ i _ => s.size - (intOf i).toNat)
  case atStart => exact ⟨0, -1, Nat.zero_le _, rfl, rfl, begun_nil n, rfl, World.ownsRow_nil _ _ _ _, Below.refl _ _⟩
  case round =>
    obtain ⟨k, bg, hk, rfl, rfl, hbg, hall, hown, hbel⟩ := hrel
    have HA := Lib.hid hall
    have HBG := Lib.hid hbg
    clear hall hbg
    by_cases hlt : k < s.size
    · have hts := Lib.hid (take_snoc s k hlt)
      have hlen := lst_len n (s.toList.take k)
      have htl : (s.toList.take k).length = k := by rw [List.length_take, len_toList]; omega
      rw [htl] at hlen
      have HTL := Lib.hid htl
      clear htl
      cases hok : okB s[k]
      · have HF := Lib.hid (ok_not hlt hok)
        unfold okB at hok
        rw [Bool.or_eq_false_iff] at hok
        obtain ⟨o1, o2⟩ := hok
        go_wp2_with (first
          | (go_at_call 52; refine (blank_any _ _).mono ?_; rintro e w' ⟨rfl, rfl⟩)
          | (go_at_call 53; refine (wletter_any _ _).mono ?_; rintro e w' ⟨rfl, rfl⟩))
        go_ret2
        exact .inr ⟨HF.out, rfl, hbel⟩
      · have HN := Lib.hid (ok_next hlt HA.out hok)
        cases hb : blankB s[k].toNat
        · have o2 : wletterB s[k].toNat = true := by unfold okB at hok; rw [hb] at hok; simpa using hok
          clear hok
          rcases HBG.out with ⟨h1, h2⟩ | ⟨h1, p, x, h2, h3, h4, h5⟩
          · have HX := Lib.hid (begun_new (n := n) hb h1)
            subst h2
            clear h1
            go_wp2_with (first
              | (go_at_call 52; refine (blank_any _ _).mono ?_; rintro e w' ⟨rfl, rfl⟩)
              | (go_at_call 53; refine (wletter_any _ _).mono ?_; rintro e w' ⟨rfl, rfl⟩)
              | (at_builtin; refine wpList_append_own _ rfl _ _ 49 rfl w.heap.size 44 i0 (.agg #[.string ByteArray.empty, .int .i64 0, .int .i64 0]) 3 32 Tryd.underlying49 hi hz0 hz1 hz2 rfl (by decide) _ _ _ rfl (hown.alloc _) ⟨wr.heap.size, 0, none⟩ 1 1 [.string (s.extract k (k + 1)), .int .i64 n, .int .i64 (k + 1)] rfl rfl ?c1 ?c2 ?c3 ?c4 ?c5 ?_))
            case c1 =>
              intro j u hj
              match j, hj with
              | 0, hj => simp at hj; subst hj; simp [Addr.add]
              | 1, hj => simp at hj; subst hj; simp [Addr.add]
              | 2, hj => simp at hj; subst hj; simp [Addr.add]
            case c2 => intro u hu; simp at hu; rcases hu with rfl | rfl | rfl <;> rfl
            case c3 => unfold maxLen; omega
            case c4 => omega
            case c5 => have := hbel.size; simp; omega
            intro v' w3 hown3 hgrow3 _
            have hb3 := (hbel.alloc hbel.size _).grown hgrow3 (by have := hbel.size; simp; omega) (fun j hj => (hown.lt j hj).1)
            clear hgrow3
            have hrow : (lst n (s.toList.take (k + 1))).out.length = (lst n (s.toList.take k)).out.length + 1 ∧ wrow (lst n (s.toList.take (k + 1))).out = wrow (lst n (s.toList.take k)).out ++ [.string (s.extract k (k + 1)), .int .i64 n, .int .i64 ((k : Int) + 1)] := by
              rw [hts.out, HX.out.2, HTL.out, wrow_append, extract_one s k hlt]
              exact ⟨by simp, rfl⟩
            rw [← hrow.1, ← hrow.2] at hown3
            have hbn := HX.out.1
            rw [HTL.out, ← hts.out] at hbn
            clear hrow
            go_wp2
            go_roundw
            case rel => exact ⟨k + 1, k, by omega, by go_num, rfl, hbn, HN.out, hown3, hb3⟩
            case measure => simp [intOf]; omega
          · obtain ⟨g, cap, cur, rfl, hg⟩ : ∃ g cap cur, u6 = .slice (some ⟨g, 0, none⟩) (lst n (s.toList.take k)).out.length cap ∧ wr.heap[g]? = some (.cells cur 44 (0, 0)) := by
              rcases hown.2 with ⟨e, h0⟩ | ⟨g, cap, cur, e, _, hg, _⟩
              · exfalso; rw [h2] at h0; simp at h0
              · exact ⟨g, cap, cur, e, hg⟩
            have HX := Lib.hid (begun_ext (c := s[k]) hb h1 h2 h3 h4 h5)
            obtain ⟨bn, hbn⟩ : ∃ bn : Nat, bg = bn := ⟨bg.toNat, by omega⟩
            subst hbn
            have hbk : bn < k := by have := HTL.out; rw [this] at h4; simpa using h4
            have hl2 : (lst n (s.toList.take k)).out.length = p.length + 1 := by rw [h2]; simp
            rw [h2] at hown
            simp only [List.length_append, List.length_cons, List.length_nil, Nat.zero_add] at hown
            rw [hl2] at hlen
            rw [hl2]
            have hx0 : wr.cell? ⟨g, p.length * 3, none⟩ = some (.string ⟨x.text.toArray⟩) := by
              rw [hown.cellAt _ (by omega), (wrow_get (p ++ [x]) p.length (by simp)).1]; simp
            have hx1 : wr.frozen? ⟨g, p.length * 3, none⟩ = false := hown.frozenAt _
            have hst := hown.stored (p.length * 3) (.string (s.extract bn (k + 1)))
            have hset : (wrow (p ++ [x])).set (p.length * 3) (.string (s.extract bn (k + 1))) = wrow (lst n (s.toList.take (k + 1))).out := by
              rw [hts.out, HX.out.2, extract_is, hts.out, wrow_set]; simp
            have hl3 : (lst n (s.toList.take (k + 1))).out.length = p.length + 1 := by rw [hts.out, HX.out.2]; simp
            rw [hset, ← hl3] at hst
            have HST := Lib.hid hst
            have HL3 := Lib.hid hl3
            have hbelg : w.heap.size ≤ g := (hown.lt g rfl).1
            clear h1 h3 h4 h5 hg hst hset hl3
            have HB2 := Lib.hid h2
            have HL2 := Lib.hid hl2
            clear h2 hl2
            go_wp2_with (first
              | (go_at_call 52; refine (blank_any _ _).mono ?_; rintro e w' ⟨rfl, rfl⟩)
              | (go_at_call 53; refine (wletter_any _ _).mono ?_; rintro e w' ⟨rfl, rfl⟩))
            go_roundw
            case rel => exact ⟨k + 1, bn, by omega, by go_num, rfl, by rw [hts.out]; exact HX.out.1, HN.out, by have := HST.out.1; rw [HL3.out] at this ⊢; exact this, hbel.setCell hbelg _⟩
            case measure => simp [intOf]; omega
        · have HX := Lib.hid (begun_blank (n := n) (l := s.toList.take k) hb)
          clear hok
          go_wp2_with (first
            | (go_at_call 52; refine (blank_any _ _).mono ?_; rintro e w' ⟨rfl, rfl⟩)
            | (go_at_call 53; refine (wletter_any _ _).mono ?_; rintro e w' ⟨rfl, rfl⟩))
          go_roundw
          case rel => exact ⟨k + 1, -1, by omega, by go_num, rfl, by rw [hts.out]; exact HX.out.1, HN.out, by rw [hts.out, HX.out.2]; exact hown, hbel⟩
          case measure => simp [intOf]; omega
    · have hke : k = s.size := by omega
      have hfull : s.toList.take k = s.toList := List.take_of_length_le (by rw [len_toList]; omega)
      rw [hfull] at hown
      have HALL := Lib.hid (show s.toList.all okB = true from by have := HA.out; rwa [hfull] at this)
      obtain ⟨A, c, rfl, hc, hsl⟩ := own_slice hown
      have hlen := lst_len n s.toList
      rw [len_toList] at hlen
      have hd : decide ((k : Int) < (s.size : Int)) = false := decide_eq_false (by omega)
      clear hke hfull HA HBG
      obtain ⟨L, hL⟩ : ∃ L, L = (lst n s.toList).out := ⟨_, rfl⟩
      have HLQ := Lib.hid hL
      have hne : ∀ x ∈ L, x.text ≠ [] := fun x hx => (lst_full n s.toList x (by rw [← hL]; exact hx)).1
      rw [← hL] at hown hsl hlen
      rw [← hL]
      clear hL
      have HNE := Lib.hid hne
      clear hne
      obtain ⟨wo, hwo⟩ : ∃ wo, wo = wr := ⟨_, rfl⟩
      go_wp2_with fail
      subst hwo
      go_loopw [62] (fun i wr => ∃ j : Nat, j ≤ L.length ∧ i = .int .i64 j ∧ (L.take j).all notRemark = true ∧ Below wo.heap.size wo wr) (fun i _ => L.length - (intOf i).toNat)
      case atStart => exact ⟨0, Nat.zero_le _, rfl, rfl, Below.refl _ _⟩
      case round =>
        obtain ⟨j, hj, rfl, hnr, hb2⟩ := hrel
        have HNR := Lib.hid hnr
        clear hnr
        by_cases hjl : j < L.length
        · obtain ⟨b, off, rfl, hb, hcell⟩ := (hsl.below hb2).at_ (fun e => by have := congrArg List.length e; rw [wrow_len] at this; simp at this; omega)
          obtain ⟨g1, g2, g3⟩ := wrow_get L j hjl
          have y1 := hcell _ _ g1
          have y2 := hcell _ _ g2
          have y3 := hcell _ _ g3
          rw [← Nat.add_assoc] at y2 y3
          have htx := HNE.out _ (List.getElem_mem hjl)
          obtain ⟨tb, htb⟩ : ∃ tb : ByteArray, tb = ⟨L[j].text.toArray⟩ := ⟨_, rfl⟩
          rw [← htb] at y1
          obtain ⟨hp, hrem⟩ := remark_first L[j] tb htb htx
          have hjc : j ≤ c := by have := Nat.le_of_lt hjl; rw [HLQ.out] at this; omega
          have own2 := own_below hown hb2
          clear hcell g1 g2 g3 htb
          cases hr : notRemark L[j]
          · have HW := Lib.hid (show lineWords n s.toList = L.take j from by unfold lineWords; rw [← HLQ.out]; exact takeWhile_at _ _ _ hjl HNR.out hr)
            rw [hr] at hrem
            have hq : ((tb[0].toNat : Int) == 35) = true := by
              cases hh : ((tb[0].toNat : Int) == 35)
              · rw [hh] at hrem; cases hrem
              · rfl
            clear hrem hr
            go_wp2_with fail
            go_ret2
            have ho := own_prefix own2 (Nat.le_of_lt hjl) (by simp)
            rw [wrow_take L j (Nat.le_of_lt hjl), ← HW.out] at ho
            have hlj : (lineWords n s.toList).length = j := by rw [HW.out, List.length_take, Nat.min_eq_left (Nat.le_of_lt hjl)]
            exact .inl ⟨HALL.out, _, rfl, by rw [hlj]; exact own_below ho ((Below.refl _ _).alloc (Nat.le_refl _) _), (hbel.trans (hb2.mono hbel.size)).alloc (by have := hb2.size; have := hbel.size; omega) _⟩
          · have HNX := Lib.hid (all_next' hjl HNR.out hr)
            rw [hr] at hrem
            have hq : ((tb[0].toNat : Int) == 35) = false := by
              cases hh : ((tb[0].toNat : Int) == 35)
              · rfl
              · rw [hh] at hrem; cases hrem
            clear hrem hr
            go_wp2_with fail
            go_roundw
            case rel => exact ⟨j + 1, by omega, by go_num, HNX.out, hb2.alloc hb2.size _⟩
            case measure => simp [intOf]; omega
        · have HW := Lib.hid (show lineWords n s.toList = L from by
            have := HNR.out
            rw [List.take_of_length_le (by omega)] at this
            unfold lineWords; rw [← HLQ.out]; exact takeWhile_all _ _ this)
          have hd2 : decide ((j : Int) < (L.length : Int)) = false := decide_eq_false (by omega)
          go_wp2_with fail
          go_ret2
          exact .inl ⟨HALL.out, _, rfl, by rw [HW.out]; exact own_below hown hb2, hbel.trans (hb2.mono hbel.size)⟩
end Go.Proofs.YtcglbbabfkbcbabDoor
