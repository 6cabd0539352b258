/-
  Names.
-/
import Derived.Test.YtdlmipoeeiaapaaOrdStrs
import Derived.Test.YtdlmipoeeiaapaaTableNeed
import Derived.Test.YtdlmipoeeiaapaaTableOk
namespace Go.Proofs.Ytdlmipoeeiaapaa
open Go.RowKit Go.Maps

set_option maxRecDepth 100000 in
set_option maxHeartbeats 4000000 in
theorem namesT_any {w : World} {g mm : Nat} {ev : Int} {l : List Rc} (h : TableAt w g mm ev l) (hfew : l.length < 1000000) :
    Calls Try.prog 27 #[.pointer (some ⟨g, 0, none⟩)] w (OrderSays (l.map Rc.nm) w) := by
  have HOK := Lib.hid h.ok
  obtain ⟨i0, hi, hz0, hz1, hz2⟩ := info_parts info_str
  go_enter Try.func27, Try.ntmps27
  go_wp2_with fail
  refine (allT_any h hfew).mono ?_
  rintro e w3 ⟨v, rfl, hrow, hb3⟩
  obtain ⟨A3, c3, rfl, R3⟩ := own_rcs hrow HOK.out (by unfold maxLen; omega)
  clear hrow
  go_wp2_with fail
  obtain ⟨w6, hw6⟩ : ∃ w6, w6 = w3 := ⟨_, rfl⟩
  subst hw6
  have hb0 := hb3.size
  go_loopw [3, 9] (fun v i wr => ∃ j : Nat, j ≤ l.length ∧ i = .int .i64 j ∧ wr.ownsRow w6.heap.size 9 1 v j (((l.take j).map Rc.nm).map Value.string) ∧ Below w6.heap.size w6 wr) (fun _ i _ => l.length - (intOf i).toNat)
  case atStart => exact ⟨0, Nat.zero_le _, rfl, by simpa using World.ownsRow_nil _ _ _ _, Below.refl _ _⟩
  case round =>
    obtain ⟨j, hj, rfl, hrow, hbel⟩ := hrel
    by_cases hlt : j < l.length
    · obtain ⟨b, off, rfl, hb, X⟩ := (R3.below hbel).get hlt
      obtain ⟨r0, r1, r2, r3, r4, r5, r6⟩ := X
      have HNX := Lib.hid (show (((l.take (j + 1)).map Rc.nm).map Value.string) = (((l.take j).map Rc.nm).map Value.string) ++ [.string l[j].nm] from by rw [List.take_succ_eq_append_getElem hlt, List.map_append, List.map_append]; rfl)
      have hsz := hbel.size
      generalize l[j]'hlt = x at *
      have hfit : j + 1 ≤ maxLen ∧ (j + 1) * 16 ≤ 140737488355328 := by unfold maxLen; omega
      have hn := cells_new (wr.alloc (.cells #[.string x.nm, .int .i64 x.st, .int .i64 x.ag.c, .int .i64 x.ag.hi, .int .u64 x.ag.lo, .int .i64 x.ag.mn, .int .i64 x.ag.mx] 34)) #[.string x.nm] 9
      rw [show (wr.alloc (.cells #[.string x.nm, .int .i64 x.st, .int .i64 x.ag.c, .int .i64 x.ag.hi, .int .u64 x.ag.lo, .int .i64 x.ag.mn, .int .i64 x.ag.mx] 34)).heap.size = wr.heap.size + 1 from by simp] at hn
      have HN := Lib.hid hn
      clear hn
      go_wp2_with (at_builtin; refine wpList_append_own _ rfl _ _ 50 rfl w6.heap.size 9 i0 (.string ByteArray.empty) 1 16 Try.underlying50 hi hz0 hz1 hz2 rfl (by decide) _ _ _ rfl ((hrow.alloc _).alloc _) ⟨wr.heap.size + 1, 0, none⟩ 1 1 [.string x.nm] rfl rfl HN.out (strs_oneCell _) hfit.1 hfit.2 ?c5 ?_; (simp; omega); intro v' w4 hown4 hgrow4 _)
      go_roundw
      case rel => exact ⟨j + 1, by omega, by go_num, by rw [HNX.out]; exact hown4, ((hbel.alloc hbel.size _).alloc (by simp; omega) _).grown hgrow4 (by simp; omega) (fun k hk => (hrow.lt k hk).1)⟩
      case measure => simp [intOf]; omega
    · have hje : j = l.length := by omega
      subst hje
      rw [List.take_length] at hrow
      have hs : ∀ s ∈ l.map Rc.nm, s.size ≤ maxLen := fun s hs => by obtain ⟨r, hr, rfl⟩ := List.mem_map.1 hs; exact (HOK.out r hr).nm
      have hln : (l.map Rc.nm).length = l.length := List.length_map _
      rw [← hln] at hrow
      obtain ⟨A5, c5, rfl, R5⟩ := own_strs hrow hs (by rw [hln]; unfold maxLen; omega)
      have hO := order_any A5 _ c5 _ wr R5 (by rw [hln]; omega)
      have hb5 := hb3.trans (hbel.mono hb3.size)
      rw [hln] at hO ⊢
      have hsz := hb5.size
      clear hs hln hrow R5 R3 hbel
      go_wp2_with fail
      refine hO.mono ?_
      rintro e w7 ⟨v, rfl, hrow7, hb7⟩
      go_wp2
      go_ret
      exact ⟨_, rfl, own_base hrow7 hsz, hb5.trans (hb7.mono hsz)⟩
end Go.Proofs.Ytdlmipoeeiaapaa
