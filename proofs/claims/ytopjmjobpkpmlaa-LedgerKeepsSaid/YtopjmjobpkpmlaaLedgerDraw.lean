/-
  The package ledger: Draw.
-/
import Derived.Test.YtopjmjobpkpmlaaLedgerOwners
import Derived.Test.YtopjmjobpkpmlaaPoolPlain
namespace Go.Proofs.Ytopjmjobpkpmlaa
open Go.RowKit Go.Maps

def drawErr (xs : List Acc) (nm : List UInt8) (k : Int) : Int := if k < 0 then 1 else match findA xs nm with | none => 8 | some a => if a.left < k then 20 else 0
def drawOut (f n : Int) (us : List Int) (xs : List Acc) (nm : List UInt8) (k : Int) : List Int := if drawErr xs nm k = 0 then (freeIn f us n.toNat).take k.toNat else []
def drawV (k : Int) (out : List Int) (v : AV) : AV := (v.1, v.2.1 - k, insAll v.2.2 out)
def DrawSays (B g m mm : Nat) (f n : Int) (us : List Int) (xs : List Acc) (s : ByteArray) (k : Int) (w : World) (e : Ending) (w' : World) : Prop :=
  ∃ v ys, e = .returned (.tuple #[v, .int .i64 (drawErr xs s.data.toList k)]) ∧ w'.ownsRow w.heap.size 3 1 v (drawOut f n us xs s.data.toList k).length ((drawOut f n us xs s.data.toList k).map (Value.int .i64)) ∧
    LedgerAt w' B g m mm f n (insAll us (drawOut f n us xs s.data.toList k)) ys ∧ view ys = (if drawErr xs s.data.toList k = 0 then setV (view xs) s.data.toList (drawV k (drawOut f n us xs s.data.toList k)) else view xs) ∧ ys.length = xs.length ∧ Below B w w'
/-- Of what was there just the pool's set and the accounts may have turned. -/
def Kept (w w' : World) (m : Nat) (xs : List Acc) : Prop := ∀ i, i < w.heap.size → i ≠ m → (∀ a ∈ xs, i ≠ a.ab ∧ i ≠ a.hb) → w'.heap[i]? = w.heap[i]?
theorem Kept.refl (w : World) (m : Nat) (xs : List Acc) : Kept w w m xs := fun _ _ _ _ => rfl
/-- What holds of blocks that are drawn. -/
structure DrawLaw (f n : Int) (us : List Int) (k : Int) (O : List Int) : Prop where
  nodup : O.Nodup
  fresh : ∀ z ∈ O, f ≤ z ∧ z < f + n ∧ z ∉ us
  len : (O.length : Int) = k
theorem drawLaw {f n : Int} {us : List Int} {k : Int} (hn : 0 ≤ n) (hr : Rising us) (hi : ∀ z ∈ us, f ≤ z ∧ z < f + n) (hk : 0 ≤ k) (hk2 : k ≤ n - us.length) : DrawLaw f n us k ((freeIn f us n.toNat).take k.toNat) := by
  have hl := freeIn_len (f := f) (us := us) (n := n.toNat) hr (fun z hz => by have := hi z hz; omega)
  refine ⟨(List.take_sublist _ _).nodup (rising_freeIn f us _).nodup, fun z hz => ?_, ?_⟩
  · have h3 := mem_freeIn.1 (List.mem_of_mem_take hz)
    exact ⟨h3.1, by have := h3.2.1; omega, h3.2.2⟩
  · rw [List.length_take]; omega
theorem len_ins_le (z : Int) : ∀ l : List Int, (ins z l).length ≤ l.length + 1
  | [] => by simp [ins]
  | y :: r => by
    have := len_ins_le z r
    unfold ins
    split
    · simp
    · split <;> (simp only [List.length_cons]; omega)
theorem len_insAll_le : ∀ (zs us : List Int), (insAll us zs).length ≤ us.length + zs.length
  | [], us => by simp [insAll]
  | z :: r, us => by
    have h1 := len_insAll_le r (ins z us)
    have h2 := len_ins_le z us
    show (insAll (ins z us) r).length ≤ _
    simp only [List.length_cons]; omega
set_option maxRecDepth 100000 in
set_option maxHeartbeats 4000000 in
theorem draw_kept {B g m mm : Nat} {f n : Int} {us : List Int} {xs : List Acc} (s : ByteArray) (k : Int) (w : World) (h : LedgerAt w B g m mm f n us xs) (hs : s.size ≤ maxLen) (hk : -9223372036854775808 ≤ k ∧ k ≤ 9223372036854775807) (hB : B ≤ w.heap.size) :
    Calls Try.prog 10 #[.pointer (some ⟨g, 0, none⟩), .string s, .int .i64 k] w fun e w' => DrawSays B g m mm f n us xs s k w e w' ∧ Kept w w' m xs := by
  obtain ⟨hk1, hk2⟩ := hk
  obtain ⟨nm, hnm⟩ : ∃ nm, nm = s.data.toList := ⟨_, rfl⟩
  have HNM := Lib.hid hnm
  clear hnm
  by_cases h1 : k < 0
  · have HE := Lib.hid (show drawErr xs s.data.toList k = 1 from if_pos h1)
    have HO := Lib.hid (show drawOut f n us xs s.data.toList k = [] from if_neg (by rw [HE.out]; omega))
    go_enter Try.func10, Try.ntmps10
    go_wp2_with fail
    go_ret2
    unfold DrawSays
    rw [HE.out, HO.out]
    exact ⟨⟨_, xs, rfl, World.ownsRow_nil _ _ _ _, h, rfl, rfl, Below.refl _ _⟩, Kept.refl _ _ _⟩
  cases hf : findA xs s.data.toList with
  | none =>
    have HE := Lib.hid (show drawErr xs s.data.toList k = 8 from by unfold drawErr; rw [if_neg h1, hf])
    have HO := Lib.hid (show drawOut f n us xs s.data.toList k = [] from if_neg (by rw [HE.out]; omega))
    have HF := Lib.hid (show ptrOf (findA xs s.data.toList) = .pointer none from by rw [hf]; rfl)
    clear hf
    go_enter Try.func10, Try.ntmps10
    go_wp2_with (go_at_call 26; refine (find_any s _ h hs).mono ?_; rw [HF.out]; rintro e w1 ⟨rfl, rfl⟩)
    go_ret2
    unfold DrawSays
    rw [HE.out, HO.out]
    exact ⟨⟨_, xs, rfl, World.ownsRow_nil _ _ _ _, h, rfl, rfl, Below.refl _ _⟩, Kept.refl _ _ _⟩
  | some a =>
    obtain ⟨ha, hn⟩ := findA_some hf
    have HF := Lib.hid (show ptrOf (findA xs s.data.toList) = .pointer (some ⟨a.ab, 0, none⟩) from by rw [hf]; rfl)
    obtain ⟨c0, c1, c2⟩ := (h.acc a ha).cells
    obtain ⟨l1, l2⟩ := h.left_bd ha
    by_cases h2 : a.left < k
    · have HE := Lib.hid (show drawErr xs s.data.toList k = 20 from by unfold drawErr; rw [if_neg h1, hf]; exact if_pos h2)
      have HO := Lib.hid (show drawOut f n us xs s.data.toList k = [] from if_neg (by rw [HE.out]; omega))
      clear hf hn
      go_enter Try.func10, Try.ntmps10
      go_wp2_with (go_at_call 26; refine (find_any s _ h hs).mono ?_; rw [HF.out]; rintro e w1 ⟨rfl, rfl⟩)
      go_ret2
      unfold DrawSays
      rw [HE.out, HO.out]
      exact ⟨⟨_, xs, rfl, World.ownsRow_nil _ _ _ _, h, rfl, rfl, Below.refl _ _⟩, Kept.refl _ _ _⟩
    · have HE := Lib.hid (show drawErr xs s.data.toList k = 0 from by unfold drawErr; rw [if_neg h1, hf]; exact if_neg h2)
      have hroom : k ≤ n - us.length := by have := h.few; have := left_le_sum h.pos ha; omega
      have hrng := h.pool.rng
      have HD := drawLaw (f := f) (n := n) (us := us) (k := k) (by omega) h.pool.set.rising h.pool.ins (by omega) hroom
      obtain ⟨O, hO⟩ : ∃ O, O = (freeIn f us n.toNat).take k.toNat := ⟨_, rfl⟩
      rw [← hO] at HD
      have HO := Lib.hid (show drawOut f n us xs s.data.toList k = O from by rw [hO]; exact if_pos HE.out)
      have HT := Lib.hid (show takeOut f n us k = (O, 0) from by unfold takeOut; rw [if_neg h1, if_neg (by omega), hO])
      have HN := Lib.hid hn
      have HDL := Lib.hid HD
      have hOlen : (O.length : Int) = k := HD.len
      have hOl : O.length ≤ 4096 := by omega
      have HOk := Lib.hid hOlen
      clear hf hn hO hrng hOlen HD
      go_enter Try.func10, Try.ntmps10
      go_wp2_with (first
        | (go_at_call 26; refine (find_any s _ h hs).mono ?_; rw [HF.out]; rintro e w1 ⟨rfl, rfl⟩)
        | (go_at_call 27; refine (take_any g m f n us k w h.pool ⟨hk1, hk2⟩).mono ?_; rintro e w1 ⟨v, rfl, hown, hp, hg1⟩
           rw [HT.out] at hown hp
           rw [HT.out]
           simp only at hown hp
           obtain ⟨A, c, rfl, hints⟩ := own_ints hown (fun z hz => by have := HDL.out.fresh z hz; have := h.pool.rng; exact wf_i64 (by omega)) (by unfold maxLen; omega)
           have hM1 := h.mem.pooled hp hg1
           obtain ⟨d0, d1, d2⟩ := (hM1.acc a ha).cells))
      have hhb : a.hb < w.heap.size := (h.acc a ha).set.lt
      have hab : a.ab < w.heap.size := lt_of_block (h.acc a ha).blk
      have hne : a.ab ≠ a.hb := (h.acc a ha).ne (h.acc a ha)
      have hM2 := hM1.left ha (a.left - k)
      have hgc : w1.grownBy (w1.setCell ⟨a.ab, 0, none⟩ (.int .i64 (a.left - k))) (some a.ab) := ⟨rfl, rfl, rfl, by simp, fun i _ hne => heap_setCell_other w1 ⟨a.ab, 0, none⟩ i _ (fun e => hne (by rw [e]))⟩
      have hown2 := hown.kept hgc (.inr (fun e => by have := (hown.lt _ e).1; omega))
      have hkept2 : Kept w (w1.setCell ⟨a.ab, 0, none⟩ (.int .i64 (a.left - k))) m xs := fun i hi hm hx =>
        (heap_setCell_other w1 ⟨a.ab, 0, none⟩ i _ (hx a ha).1).trans (hg1.block i hi (fun e => hm (by injection e)))
      have hbel2 : Below B w (w1.setCell ⟨a.ab, 0, none⟩ (.int .i64 (a.left - k))) := ((Below.refl B w).grown hg1 hB (fun j hj => by cases hj; exact h.mem.low.2.1)).setCell (h.acc a ha).low.1 _
      have hsz2 : w.heap.size ≤ (w1.setCell ⟨a.ab, 0, none⟩ (.int .i64 (a.left - k))).heap.size := hbel2.size
      have HFW := Lib.hid (h.held_few ha)
      have hn4 := h.few.2.2.1
      clear hgc hown hp hints d0 d1 d2 c0 c1 c2
      generalize w1.setCell ⟨a.ab, 0, none⟩ (.int .i64 (a.left - k)) = w2 at *
      have hacc2 := hM2.acc _ (mem_setA_self ha)
      have hset2 : SetAt w2 a.hb a.held := hacc2.set
      obtain ⟨d0, d1, d2⟩ := hacc2.cells
      have d1' : w2.cell? ⟨a.ab, 1, none⟩ = some (.map (some a.hb)) := d1
      clear d0 d1 d2 hacc2
      go_loopw [49] (fun i wr => ∃ j : Nat, j ≤ O.length ∧ i = .int .i64 j ∧ SetAt wr a.hb (insAll a.held (O.take j)) ∧ w2.grownBy wr (some a.hb)) (fun i _ => O.length - (intOf i).toNat)
      case atStart => exact ⟨0, Nat.zero_le _, rfl, hset2, World.grownBy.refl _ _⟩
      case round =>
        obtain ⟨j, hj, rfl, hset, hgr⟩ := hrel
        have hown3 := hown2.kept hgr (.inr (fun e => by have := (hown2.lt _ e).1; omega))
        obtain ⟨A', c', hA, hints⟩ := own_ints hown3 (fun z hz => by have := HDL.out.fresh z hz; have := h.pool.rng; exact wf_i64 (by omega)) (by unfold maxLen; omega)
        obtain ⟨rfl, _, rfl⟩ := Value.slice.inj hA
        by_cases hlt : j < O.length
        · obtain ⟨b, off, rfl, hb, hc⟩ := hints.get hlt
          have hwf := hints.wf _ (List.getElem_mem hlt)
          have hcell : wr.cell? ⟨a.ab, 1, none⟩ = some (.map (some a.hb)) := (World.cell?_of_block (a := ⟨a.ab, 1, none⟩) (hgr.block _ (by show a.ab < _; omega) (fun e => hne (by injection e)))).trans d1'
          have hlen : (insAll a.held (O.take j)).length ≤ 8192 := by
            have h1 := len_insAll_le (O.take j) a.held
            have h2 := HFW.out
            rw [List.length_take] at h1; omega
          have HN2 := Lib.hid (show insAll a.held (O.take (j + 1)) = ins O[j] (insAll a.held (O.take j)) from by rw [List.take_succ_eq_append_getElem hlt, insAll_snoc])
          clear hints hown3 hA
          go_wp2_with (at_mapUpdate; refine wpList_mapUpdate_own _ rfl _ _ _ 37 rfl 3 61 int_law Try.underlying37 _ a.hb _ (setD (insAll a.held (O.take j))) rfl hset.own (by unfold maxLen; omega) _ _ _ rfl rfl (keyOf_int_mk Try.underlying3 hwf) _ [] unitElem_mk ?_; intro w3 hown4 hgrow4)
          rw [put_setD _ _ hset.rising] at hown4
          have hset4 : SetAt w3 a.hb (insAll a.held (O.take (j + 1))) := by rw [HN2.out]; exact SetAt.of_own hown4 (rising_ins hset.rising)
          clear hown4
          go_wp2
          go_roundw
          case rel => exact ⟨j + 1, by omega, by go_num, hset4, grown_trans' hgr hgrow4⟩
          case measure => simp [intOf]; omega
        · have hje : j = O.length := by omega
          have HT2 := Lib.hid (show O.take j = O from List.take_of_length_le (by omega))
          rw [HT2.out] at hset
          have hM3 := hM2.heldTo (mem_setA_self ha) hset hgr
          have hd : decide ((j : Int) < (O.length : Int)) = false := decide_eq_false (by omega)
          clear hje hints hA
          go_wp2_with fail
          go_ret2
          unfold DrawSays
          rw [HE.out, HO.out]
          have hS := setA_setA (xs := xs) (nm := a.name) (F := toLeft (a.left - k)) (G := toHeld (insAll a.held O)) (fun _ => rfl)
          refine ⟨⟨_, _, rfl, hown3, ⟨hM3, ?_⟩, ?_, by rw [setA_len, setA_len], hbel2.grown hgr (Nat.le_trans hB hsz2) (fun j hj => by cases hj; exact (h.acc a ha).low.2)⟩, fun i hi hm hx => (hgr.block i (Nat.lt_of_lt_of_le hi hsz2) (fun e => (hx a ha).2 (by injection e))).trans (hkept2 i hi hm hx)⟩
          · show LedgerLaw n _ (setA (setA xs a.name (toLeft (a.left - k))) a.name (toHeld (insAll a.held O)))
            rw [hS]
            refine h.law.setTo h.apart (fun x hx y hy => h.mem.one hx hy) ha (fun _ => rfl) (by show 0 ≤ a.left - k; omega) ?_ (fun z => ?_) (fun z hz => ?_)
            · rw [length_insAll HDL.out.nodup (fun z hz => (HDL.out.fresh z hz).2.2)]
              show sumL xs - a.left + (a.left - k) + _ ≤ n
              have := h.law.room; have := HDL.out.len; omega
            · show _ ↔ z ∈ insAll a.held O ∨ _
              rw [mem_insAll, mem_insAll]
              have := h.sub ha z
              by_cases hz : z ∈ a.held
              · simp [hz, this hz]
              · simp [hz]; exact Or.comm
            · rcases mem_insAll.1 (show z ∈ insAll a.held O from hz) with hz | hz
              · exact .inl hz
              · exact .inr (HDL.out.fresh z hz).2.2
          · show view (setA (setA xs a.name (toLeft (a.left - k))) a.name (toHeld (insAll a.held O))) = _
            rw [hS, if_pos rfl, ← HN.out]
            exact view_set (fun x hx e => by rw [h.mem.one hx ha e]; rfl)
theorem draw_any {B g m mm : Nat} {f n : Int} {us : List Int} {xs : List Acc} (s : ByteArray) (k : Int) (w : World) (h : LedgerAt w B g m mm f n us xs) (hs : s.size ≤ maxLen) (hk : -9223372036854775808 ≤ k ∧ k ≤ 9223372036854775807) (hB : B ≤ w.heap.size) :
    Calls Try.prog 10 #[.pointer (some ⟨g, 0, none⟩), .string s, .int .i64 k] w (DrawSays B g m mm f n us xs s k w) := (draw_kept s k w h hs hk hB).mono fun _ _ h => h.1
end Go.Proofs.Ytopjmjobpkpmlaa
