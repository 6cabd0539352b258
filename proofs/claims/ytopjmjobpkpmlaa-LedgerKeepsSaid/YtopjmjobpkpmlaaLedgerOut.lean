/-
  The package ledger: out, Holds, Owners, New.
-/
import Derived.Test.YtopjmjobpkpmlaaLedgerMake
namespace Go.Proofs.Ytopjmjobpkpmlaa
open Go.RowKit Go.Maps Go.Sort Go.Shelf

theorem setA_setA {xs : List Acc} {nm : List UInt8} {F G : Acc → Acc} (h : ∀ a, (F a).name = a.name) : setA (setA xs nm F) nm G = setA xs nm (fun a => G (F a)) := by
  unfold setA
  rw [List.map_map]
  apply List.map_congr_left
  intro a _
  simp only [Function.comp]
  by_cases e : a.name = nm
  · rw [if_pos e, if_pos (by rw [h, e]), if_pos e]
  · rw [if_neg e, if_neg e, if_neg e]
theorem mem_setA_self {xs : List Acc} {a : Acc} {F : Acc → Acc} (ha : a ∈ xs) : F a ∈ setA xs a.name F := mem_setA.2 ⟨a, ha, by rw [if_pos rfl]⟩
theorem LedgerLaw.setTo {n : Int} {us us' : List Int} {xs : List Acc} (h : LedgerLaw n us xs) (hp : xs.Pairwise (fun x y => x.name ≠ y.name)) (hone : ∀ x ∈ xs, ∀ y ∈ xs, x.name = y.name → x = y) {a : Acc} (ha : a ∈ xs) {F : Acc → Acc} (hF : ∀ x, (F x).name = x.name)
    (h1 : 0 ≤ (F a).left) (h2 : sumL xs - a.left + (F a).left + us'.length ≤ n) (h3 : ∀ z, z ∈ us' ↔ z ∈ (F a).held ∨ (z ∈ us ∧ z ∉ a.held)) (h4 : ∀ z ∈ (F a).held, z ∈ a.held ∨ z ∉ us) :
    LedgerLaw n us' (setA xs a.name F) := by
  have key : ∀ y ∈ setA xs a.name F, (y = F a) ∨ (y ∈ xs ∧ y.name ≠ a.name) := by
    intro y hy
    obtain ⟨x, hx, rfl⟩ := mem_setA.1 hy
    by_cases e : x.name = a.name
    · rw [if_pos e, hone x hx a ha e]; exact .inl rfl
    · rw [if_neg e]; exact .inr ⟨hx, e⟩
  refine ⟨fun y hy => ?_, fun y hy => ?_, ?_, fun z => ?_, fun y hy y' hy' z hz hz' => ?_⟩
  · rcases key y hy with rfl | ⟨hx, _⟩
    · rw [hF]; exact h.name a ha
    · exact h.name y hx
  · rcases key y hy with rfl | ⟨hx, _⟩
    · exact h1
    · exact h.pos y hx
  · rw [sumL_set hp ha rfl]; exact h2
  · rw [h3]
    constructor
    · rintro (hz | ⟨hz, hn⟩)
      · exact ⟨F a, mem_setA_self ha, hz⟩
      · obtain ⟨x, hx, hxz⟩ := (h.held z).1 hz
        refine ⟨x, mem_setA.2 ⟨x, hx, ?_⟩, hxz⟩
        rw [if_neg (fun e => hn (by rw [← hone x hx a ha e]; exact hxz))]
    · rintro ⟨y, hy, hz⟩
      rcases key y hy with rfl | ⟨hx, hne⟩
      · exact .inl hz
      · exact .inr ⟨(h.held z).2 ⟨y, hx, hz⟩, fun hza => hne (h.once y hx a ha z hz hza)⟩
  · have cross : ∀ y, y ∈ xs → y.name ≠ a.name → ∀ z, z ∈ (F a).held → z ∈ y.held → False := by
      intro y hx hne z hz hz'
      rcases h4 z hz with hza | hzu
      · exact hne (h.once y hx a ha z hz' hza)
      · exact hzu ((h.held z).2 ⟨y, hx, hz'⟩)
    rcases key y hy with rfl | ⟨hx, hne⟩ <;> rcases key y' hy' with rfl | ⟨hx', hne'⟩
    · rfl
    · exact (cross y' hx' hne' z hz hz').elim
    · exact (cross y hx hne z hz' hz).elim
    · exact h.once y hx y' hx' z hz hz'

/-- Blocks are taken out of those that are held: what is left, and what was taken. -/
def outStep (s : List Int × List Int) (z : Int) : List Int × List Int := if z ∈ s.1 then (s.1.filter (fun x => decide (x ≠ z)), s.2 ++ [z]) else s
def outAll (hs zs : List Int) : List Int × List Int := zs.foldl outStep (hs, [])
theorem outAll_snoc (hs zs : List Int) (z : Int) : outAll hs (zs ++ [z]) = outStep (outAll hs zs) z := by simp [outAll, List.foldl_append]
structure OutLaw (hs zs : List Int) (O : List Int × List Int) : Prop where
  nodup : O.2.Nodup
  sub : ∀ z ∈ O.2, z ∈ hs ∧ z ∈ zs
  left : O.1 = hs.filter fun x => decide (x ∉ O.2)
  len : O.2.length ≤ zs.length
  all : ∀ z ∈ zs, z ∈ hs → z ∈ O.2
theorem outLaw (hs zs : List Int) : OutLaw hs zs (outAll hs zs) := by
  obtain ⟨ys, rfl⟩ : ∃ ys : List Int, zs = ys.reverse := ⟨zs.reverse, by simp⟩
  induction ys with
  | nil => exact ⟨by simp [outAll], by simp [outAll], by simp [outAll]; exact (List.filter_eq_self.2 (by simp)).symm, by simp [outAll], by simp⟩
  | cons y r ih =>
    rw [List.reverse_cons, outAll_snoc]
    obtain ⟨h1, h2, h3, h4, h5⟩ := ih
    generalize outAll hs r.reverse = O at *
    have hmem : y ∈ O.1 ↔ y ∈ hs ∧ y ∉ O.2 := by rw [h3, List.mem_filter]; simp
    by_cases hy : y ∈ O.1
    · have e : outStep O y = (O.1.filter (fun x => decide (x ≠ y)), O.2 ++ [y]) := if_pos hy
      rw [e]
      obtain ⟨hy1, hy2⟩ := hmem.1 hy
      refine ⟨?_, fun z hz => ?_, ?_, ?_, fun z hz hzh => ?_⟩
      · rw [List.nodup_append]
        exact ⟨h1, by simp, fun a ha b hb e => by simp at hb; rw [e, hb] at ha; exact hy2 ha⟩
      · rcases List.mem_append.1 hz with hz | hz
        · have := h2 z hz; exact ⟨this.1, by simp at this ⊢; exact .inl this.2⟩
        · simp at hz; subst hz; exact ⟨hy1, by simp⟩
      · rw [h3, List.filter_filter]
        apply List.filter_congr
        intro x _
        rw [Bool.eq_iff_iff]
        simp; exact And.comm
      · simp only [List.length_append, List.length_cons, List.length_nil] at *; omega
      · rcases List.mem_append.1 hz with hz | hz
        · exact List.mem_append.2 (.inl (h5 z hz hzh))
        · simp at hz; subst hz; simp
    · have e : outStep O y = O := if_neg hy
      rw [e]
      refine ⟨h1, fun z hz => ?_, h3, ?_, fun z hz hzh => ?_⟩
      · have := h2 z hz; exact ⟨this.1, by simp at this ⊢; exact .inl this.2⟩
      · simp only [List.length_append, List.length_cons, List.length_nil] at *; omega
      · rcases List.mem_append.1 hz with hz | hz
        · exact h5 z hz hzh
        · simp at hz; subst hz
          by_cases hzo : z ∈ O.2
          · exact hzo
          · exact absurd (hmem.2 ⟨hzh, hzo⟩) hy
set_option maxRecDepth 100000 in
set_option maxHeartbeats 2000000 in
theorem out_any (B : Nat) (a : Acc) (A : Option Addr) (k c : Nat) (zs : List Int) (w : World) (h : AccAt w B a) (hz : Ints w .i64 A k zs) (hk : k ≤ 1000000) :
    Calls Try.prog 33 #[.pointer (some ⟨a.ab, 0, none⟩), .slice A k c] w fun e w' => ∃ v, e = .returned v ∧ w'.ownsRow w.heap.size 3 1 v (outAll a.held zs).2.length ((outAll a.held zs).2.map (Value.int .i64)) ∧ SetAt w' a.hb (outAll a.held zs).1 ∧ w.grownBy w' (some a.hb) := by
  have HL := Lib.hid hz.len
  obtain ⟨i0, hi, hz0, hz1, hz2⟩ := info_parts info_int
  have hblt := lt_of_block h.blk
  have hne : a.ab ≠ a.hb := h.ne h
  go_enter Try.func33, Try.ntmps33
  go_wp2
  go_loopw [5, 14] (fun v i wr => ∃ j : Nat, j ≤ k ∧ i = .int .i64 j ∧ wr.ownsRow w.heap.size 3 1 v (outAll a.held (zs.take j)).2.length ((outAll a.held (zs.take j)).2.map (Value.int .i64)) ∧ SetAt wr a.hb (outAll a.held (zs.take j)).1 ∧ w.grownBy wr (some a.hb)) (fun _ i _ => k - (intOf i).toNat)
  case atStart => exact ⟨0, Nat.zero_le _, rfl, World.ownsRow_nil _ _ _ _, h.set, World.grownBy.refl _ _⟩
  case round =>
    obtain ⟨j, hj, rfl, hown, hset, hgr⟩ := hrel
    by_cases hlt : j < k
    · have K : j < zs.length := by rw [HL.out]; exact hlt
      obtain ⟨b, off, rfl, hb, hc⟩ := (ints_keep hz hgr h.set.nocell).get K
      have hwf := hz.wf _ (List.getElem_mem K)
      have HN := Lib.hid (show outAll a.held (zs.take (j + 1)) = outStep (outAll a.held (zs.take j)) zs[j] from by rw [List.take_succ_eq_append_getElem K, outAll_snoc])
      have HLen : (outAll a.held (zs.take j)).2.length ≤ j := by have := (outLaw a.held (zs.take j)).len; rw [List.length_take] at this; omega
      have hcell : wr.cell? ⟨a.ab, 1, none⟩ = some (.map (some a.hb)) := (World.cell?_of_block (a := ⟨a.ab, 1, none⟩) (hgr.block _ hblt (fun e => hne (by injection e)))).trans h.cells.2.1
      have hsz : w.heap.size ≤ wr.heap.size := hgr.size
      have hblt2 : a.ab < wr.heap.size := by omega
      generalize outAll a.held (zs.take j) = O at *
      generalize zs[j]'K = z at *
      by_cases hu : z ∈ O.1
      · have HX := Lib.hid (show outStep O z = (O.1.filter (fun x => decide (x ≠ z)), O.2 ++ [z]) from if_pos hu)
        have HU := Lib.hid (decide_eq_true hu)
        clear hu
        have hown2 := hown.alloc (.cells #[] 61)
        have hset2 := hset.alloc (.cells #[] 61)
        go_wp2_with (first
          | (at_lookup; refine wpList_lookup_own_unit _ rfl _ _ 37 rfl 3 61 int_law Try.underlying37 (zero_unit _) a.hb _ (setD O.1) rfl hset.own _ _ rfl (keyOf_int_mk Try.underlying3 hwf) ?_; rw [has_setD, HU.out])
          | (at_delete; refine wpList_delete_own _ rfl _ _ 37 3 rfl 61 int_law Try.underlying37 _ a.hb _ (setD O.1) rfl hset2.own _ _ rfl (keyOf_int_mk Try.underlying3 hwf) ?_; intro w3 hown3 hturn3
             have hg3 := hturn3.grown
             have hrow3 := hown2.kept hg3 (.inr (fun e => by have := (hown.lt _ e).1; have := h.set.lt; omega))
             have hs3 : w.heap.size ≤ w3.heap.size := by have := hg3.size; simp at this; omega
             have hset3 := del_own hown3 hset.rising
             clear hown3)
          | (at_builtin; refine wpList_append_own _ rfl _ _ 27 rfl w.heap.size 3 i0 (.int .i64 0) 1 8 Try.underlying27 hi hz0 hz1 hz2 rfl (by decide) _ _ _ rfl (hrow3.alloc _) ⟨w3.heap.size, 0, none⟩ 1 1 [.int .i64 z] rfl rfl (cell_one_new _ _ _) (ints_oneCell _ [z]) ?_ ?_ ?_ ?_
             · unfold maxLen; omega
             · omega
             · simp; omega
             intro v' w4 hown4 hgrow4 _))
        have hset4 := (hset3.alloc (.cells #[.int .i64 z] 3)).grown hgrow4 (fun e => by have := (hown.lt _ e.symm).1; have := h.set.lt; omega)
        have hgr4 := ((hgr.andThen (World.grownBy_alloc wr (.cells #[] 61) none) (fun _ e => nomatch e)).andThen hg3 (fun j e => .inr (by cases e; rfl))).andThen (World.grownBy_alloc w3 (.cells #[.int .i64 z] 3) none) (fun _ e => nomatch e)
        have hgr5 := hgr4.andThen hgrow4 (fun j e => .inl ((hown.lt _ e).1))
        go_roundw
        case rel => exact ⟨j + 1, by omega, by go_num, by rw [HN.out, HX.out]; simpa using hown4, by rw [HN.out, HX.out]; exact hset4, hgr5⟩
        case measure => simp [intOf]; omega
      · have HX := Lib.hid (show outStep O z = O from if_neg hu)
        have HU := Lib.hid (decide_eq_false hu)
        clear hu
        go_wp2_with (first
          | (at_lookup; refine wpList_lookup_own_unit _ rfl _ _ 37 rfl 3 61 int_law Try.underlying37 (zero_unit _) a.hb _ (setD O.1) rfl hset.own _ _ rfl (keyOf_int_mk Try.underlying3 hwf) ?_; rw [has_setD, HU.out]))
        go_roundw
        case rel => exact ⟨j + 1, by omega, by go_num, by rw [HN.out, HX.out]; exact hown.alloc _, by rw [HN.out, HX.out]; exact hset.alloc _, hgr.andThen (World.grownBy_alloc wr (.cells #[] 61) none) (fun _ e => nomatch e)⟩
        case measure => simp [intOf]; omega
    · have e1 := Lib.hid (show zs.take j = zs from List.take_of_length_le (by rw [HL.out]; omega))
      go_wp2
      go_ret
      rw [e1.out] at hown hset
      exact ⟨_, rfl, hown, hset, hgr⟩
end Go.Proofs.Ytopjmjobpkpmlaa
