/-
  pool: use, Take.
-/
import Derived.Test.YtcglbbabfkbcbacPool
namespace Go.Proofs.Ytcglbbabfkbcbac
open Go.RowKit Go.Maps

/-- Numbers put into a rising list, one by one. -/
def insAll (us : List Int) (zs : List Int) : List Int := zs.foldl (fun u z => ins z u) us
theorem insAll_nil (us : List Int) : insAll us [] = us := rfl
theorem insAll_snoc (us zs : List Int) (z : Int) : insAll us (zs ++ [z]) = ins z (insAll us zs) := by simp [insAll, List.foldl_append]
theorem mem_insAll {x : Int} : ∀ {zs us : List Int}, x ∈ insAll us zs ↔ x ∈ us ∨ x ∈ zs
  | [], us => by simp [insAll]
  | z :: r, us => by
    show x ∈ insAll (ins z us) r ↔ _
    rw [mem_insAll (zs := r), mem_ins]; simp
    constructor
    · rintro ((h | h) | h) <;> simp [h]
    · rintro (h | h | h) <;> simp [h]
theorem rising_insAll : ∀ {zs us : List Int}, Rising us → Rising (insAll us zs)
  | [], _, h => h
  | _ :: r, _, h => rising_insAll (zs := r) (rising_ins h)
theorem ints_keep {w w' : World} {k : IntKind} {A : Option Addr} {n : Nat} {zs : List Int} {m : Nat} (h : Ints w k A n zs) (hg : w.grownBy w' (some m)) (hm : ∀ o, w.cell? ⟨m, o, none⟩ = none) : Ints w' k A n zs :=
  ⟨⟨fun hne => by
    obtain ⟨b, off, e, hlt, hc⟩ := h.sl.at_ hne
    have hbm : b ≠ m := by
      rintro rfl
      obtain ⟨u, r, hu⟩ := List.exists_cons_of_ne_nil hne
      have := hc 0 u (by rw [hu]; rfl)
      rw [hm] at this; cases this
    exact ⟨b, off, e, Nat.lt_of_lt_of_le hlt hg.size, fun j u hu => hg.cell (a := ⟨b, off + j, none⟩) (hc j u hu) (fun e => hbm (by injection e))⟩⟩, h.len, h.n_le, h.wf⟩
theorem SetAt.nocell {w : World} {b : Nat} {us : List Int} (h : SetAt w b us) (o : Nat) : w.cell? ⟨b, o, none⟩ = none := by
  obtain ⟨es, c, h1, _⟩ := h.own
  simp [World.cell?, h1]
theorem grown_trans' {a b c : World} {row : Option Nat} (h : a.grownBy b row) (k : b.grownBy c row) : a.grownBy c row :=
  ⟨k.os.trans h.os, k.tape.trans h.tape, k.output.trans h.output, Nat.le_trans h.size k.size, fun i hi hne => (k.block i (Nat.lt_of_lt_of_le hi h.size) hne).trans (h.block i hi hne)⟩
theorem grown_of_below {a b : World} (h : Below a.heap.size a b) (row : Option Nat) : a.grownBy b row := ⟨h.os, h.tape, h.output, h.size, fun i hi _ => h.block i hi⟩
set_option maxHeartbeats 1000000 in
theorem use_any (g m : Nat) (f n : Int) (us : List Int) (A : Option Addr) (k c : Nat) (zs : List Int) (w : World) (h : PoolAt w g m f n us) (hz : Ints w .i64 A k zs) (hin : ∀ z ∈ zs, f ≤ z ∧ z < f + n) :
    Calls Try.prog 20 #[.pointer (some ⟨g, 0, none⟩), .slice A k c] w fun e w' => e = .returned (.tuple #[]) ∧ PoolAt w' g m f n (insAll us zs) ∧ w.grownBy w' (some m) := by
  have hn := hz.n_le
  have HL := Lib.hid hz.len
  unfold maxLen at hn
  go_enter Try.func20, Try.ntmps20
  go_wp2
  go_loopw [8] (fun i wr => ∃ j : Nat, j ≤ k ∧ i = .int .i64 j ∧ PoolAt wr g m f n (insAll us (zs.take j)) ∧ w.grownBy wr (some m)) (fun i _ => k - (intOf i).toNat)
  case atStart => exact ⟨0, Nat.zero_le _, rfl, h, World.grownBy.refl _ _⟩
  case round =>
    obtain ⟨j, hj, rfl, hp, hgr⟩ := hrel
    by_cases hlt : j < k
    · have K : j < zs.length := by rw [HL.out]; exact hlt
      obtain ⟨b, off, rfl, hb, hc⟩ := (ints_keep hz hgr h.set.nocell).get K
      obtain ⟨c0, c1, c2⟩ := hp.cells
      have hown := hp.set.own
      have hwf := hz.wf _ (List.getElem_mem K)
      have hsz := hp.size_le
      obtain ⟨_, _, _, h4096, _⟩ := hp.rng
      have HN := Lib.hid (show insAll us (zs.take (j + 1)) = ins zs[j] (insAll us (zs.take j)) from by rw [List.take_succ_eq_append_getElem K, insAll_snoc])
      go_wp2_with (at_mapUpdate; refine wpList_mapUpdate_own _ rfl _ _ _ 28 rfl 3 58 int_law Try.underlying28 _ m _ (setD (insAll us (zs.take j))) rfl hown (by unfold maxLen; omega) _ _ _ rfl rfl (keyOf_int_mk Try.underlying3 hwf) _ [] unitElem_mk ?_; intro w1 hown1 hgrow1)
      rw [put_setD _ _ hp.set.rising] at hown1
      have hp1 : PoolAt w1 g m f n (insAll us (zs.take (j + 1))) := by
        rw [HN.out]
        exact ⟨hp.blk.keep (hgrow1.block g hp.lt (fun e => hp.ne (by injection e))), SetAt.of_own hown1 (rising_ins hp.set.rising), hp.rng, fun z hz' => by
          rcases mem_ins.1 hz' with rfl | hz'
          · exact hin _ (List.getElem_mem K)
          · exact hp.ins z hz'⟩
      clear hown1
      go_wp2
      go_roundw
      case rel => exact ⟨j + 1, by omega, by go_num, hp1, grown_trans' hgr hgrow1⟩
      case measure => simp [intOf]; omega
    · go_wp2
      go_end0
      rw [List.take_of_length_le (by rw [HL.out]; omega)] at hp
      exact ⟨rfl, hp, hgr⟩
end Go.Proofs.Ytcglbbabfkbcbac
