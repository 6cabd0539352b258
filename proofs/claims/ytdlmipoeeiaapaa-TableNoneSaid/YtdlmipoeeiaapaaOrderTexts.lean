/-
  name.Order: what it hands back is new, and holds the texts in order, each once.
-/
import Derived.Test.YtdlmipoeeiaapaaShelfS
import Derived.Test.YtdlmipoeeiaapaaMem
import Derived.Test.YtdlmipoeeiaapaaPlain5
import Derived.Lib.OwnBridge
import Derived.Sort.OwnSorted
import Derived.Lib.Hide
import Derived.Outline
import Derived.WalkSpells
namespace Go.Proofs.Ytdlmipoeeiaapaa
open Go.RowKit Go.Sort

def sortS (l : List (List UInt8)) : List (List UInt8) := l.mergeSort fun x y => decide (x ≤ y)
def orderS (ss : List ByteArray) : List (List UInt8) := Lib.compact (sortS (ss.map ByteArray.toList))
theorem encStr_toList (ss : List ByteArray) : (ss.map ByteArray.toList).map encStr = ss.map Value.string := by
  have h := Lib.map_encStr ss
  have e : ss.map ByteArray.toList = ss.map (·.data.toList) := List.map_congr_left (fun x _ => ByteArray.toList_eq x)
  rw [e]; exact h
theorem orderS_nil : orderS [] = [] := by unfold orderS sortS; simp; rfl
def OrderSays (ss : List ByteArray) (w : World) (e : Ending) (w' : World) : Prop :=
  ∃ v, e = .returned v ∧ w'.ownsRow w.heap.size 9 1 v (orderS ss).length ((orderS ss).map encStr) ∧ Below w.heap.size w w'
set_option maxHeartbeats 1000000 in
theorem order_any (A : Option Addr) (n c : Nat) (ss : List ByteArray) (w : World) (h : Strs w A n ss) (hn : n ≤ 1000000) :
    Calls Try.prog 46 #[.slice A n c] w (OrderSays ss w) := by
  by_cases h0 : n = 0
  · subst h0
    have hss : ss = [] := List.eq_nil_of_length_eq_zero h.len
    subst hss
    cases A with
    | none =>
      go_enter Try.func46, Try.ntmps46
      go_wp2_with fail
      refine (Try.slices_Clone_string_nil _ _ _).mono ?_
      rintro e w1 ⟨rfl, rfl⟩
      go_wp2_with fail
      refine (Try.slices_Sort_string_none _ _ _).mono ?_
      rintro e w1 ⟨rfl, rfl⟩
      go_wp2_with fail
      refine (Try.slices_Compact_string_empty _ _ _).mono ?_
      rintro e w1 ⟨rfl, rfl⟩
      go_wp2_with fail
      go_ret
      exact ⟨_, rfl, by rw [orderS_nil]; exact World.ownsRow_nil _ _ _ _, Below.refl _ _⟩
    | some a =>
      go_enter Try.func46, Try.ntmps46
      go_wp2_with fail
      refine (Try.slices_Clone_string_zero _ _ _).mono ?_
      rintro e w1 ⟨v, rfl, hown, hne, hb⟩
      obtain ⟨g, cap, rfl, _⟩ := Lib.holds_of_ownsRow (α := List UInt8) (enc := encStr) (zs := []) hown hne
      go_wp2_with fail
      refine (Try.slices_Sort_string_none _ _ _).mono ?_
      rintro e w2 ⟨rfl, rfl⟩
      go_wp2_with fail
      refine (Try.slices_Compact_string_empty _ _ _).mono ?_
      rintro e w2 ⟨rfl, rfl⟩
      go_wp2_with fail
      go_ret
      exact ⟨_, rfl, by rw [orderS_nil]; exact hown, hb⟩
  · obtain ⟨b, off, rfl, _, hc⟩ := h.sl.at_ (fun e => by have := h.len; simp at e; subst e; simp at this; omega)
    have hl := h.len
    have hcl := Try.slices_Clone_string b off n c ss w (by omega) (by omega) (fun j hj => by rw [hc j _ (by rw [List.getElem?_map, List.getElem?_eq_getElem hj]; rfl)]; simp [List.getD, hj])
    rw [List.take_of_length_le (by omega)] at hcl
    have HL := Lib.hid hl
    clear hl hc h0
    go_enter Try.func46, Try.ntmps46
    go_wp2_with fail
    refine hcl.mono ?_
    rintro e w1 ⟨v, rfl, hown, hne, hb⟩
    rw [← encStr_toList] at hown
    obtain ⟨g, cap, rfl, hbase, hgl, hncap, hmax, hzl, hH⟩ := Lib.holds_of_ownsRow hown hne
    rcases hown.2 with ⟨hnil, _⟩ | ⟨g', cap', cur, e1, _, hblk, _, _, hsz, _⟩
    · exact absurd hnil hne
    injection e1 with e1 _ e3
    injection e1 with e1
    injection e1 with e1
    subst e1 e3
    have HZ := Lib.hid hzl
    have hs := Try.slices_Sort_string g 0 cap (ss.map ByteArray.toList) w1 hH hgl (by omega)
    rw [hzl] at hs
    clear hzl
    go_wp2_with fail
    refine hs.mono ?_
    rintro e w2 ⟨rfl, nn, os, rfl⟩
    have hown2 := ownsRow_sorted (n := nn) (os := os) (ss := ss.map ByteArray.toList) (ts := sortS (ss.map ByteArray.toList)) (base := w.heap.size) (by simp [sortS]) hbase hblk (by rw [HZ.out]; exact hncap) hmax hsz
    have hg2 := grownBy_sorted (w := w1) (g := g) (n := nn) (os := os) (sortS (ss.map ByteArray.toList)).toArray
    have hb2 := hb.grown hg2 hb.size (fun k hk => by cases hk; exact hbase)
    rw [HZ.out] at hown2
    have hne2 : Value.slice (some ⟨g, 0, none⟩) n cap ≠ .slice none 0 0 := by intro e; cases e
    obtain ⟨g3, cap3, e3, _, hgl3, _, _, hzl3, hH3⟩ := Lib.holds_of_ownsRow hown2 hne2
    injection e3 with e3 _ e4
    injection e3 with e3
    injection e3 with e3
    subst e3 e4
    have hcm := Try.slices_Compact_string g 0 cap (sortS (ss.map ByteArray.toList)) _ hH3 (by rw [hzl3]; omega) (by rw [hzl3]; exact hncap)
    have hle := Lib.compact_length_le (sortS (ss.map ByteArray.toList))
    rw [hzl3] at hcm hle
    unfold sortS at hcm hown2 hle
    have HZ3 := Lib.hid hzl3
    clear hzl3
    go_wp2_with fail
    refine hcm.mono ?_
    rintro e w3 ⟨rfl, q, rfl⟩
    have hown3 := Lib.ownsRow_putRow (q := q) (k := (orderS ss).length) (ys := orderS ss ++ List.replicate (n - (orderS ss).length) []) hown2 (by simp; exact Nat.add_sub_cancel' hle) hle
    rw [List.take_left] at hown3
    have hb3 := Lib.below_putRow (enc := encStr) (q := q) (d := (orderS ss ++ List.replicate (n - (orderS ss).length) []).toArray) hb2 hbase
    go_wp2_with fail
    go_ret
    exact ⟨_, rfl, hown3, hb3⟩
end Go.Proofs.Ytdlmipoeeiaapaa
