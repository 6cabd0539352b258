/-
  The package ledger: Move.
-/
import Derived.Test.YtopjmjobpkpmlaaLedgerReturn
namespace Go.Proofs.Ytopjmjobpkpmlaa
open Go.RowKit Go.Maps

def moveOut (xs : List Acc) (nm : List UInt8) (t : ByteArray) (zs : List Int) : List Int := match findA xs nm with | none => [] | some a => if 1 ≤ t.size ∧ t.size ≤ 15 then (outAll a.held zs).2 else []
def lessV (O : List Int) (v : AV) : AV := (v.1, v.2.1, lessU v.2.2 O)
def moreV (O : List Int) (v : AV) : AV := (v.1, v.2.1, insAll v.2.2 O)
def moveV (vs : List AV) (nm t : List UInt8) (O : List Int) : List AV := if O = [] then vs else setV (makeV (setV vs nm (lessV O)) t) t (moreV O)
def MoveSays (B g m mm : Nat) (f n : Int) (us : List Int) (xs : List Acc) (s t : ByteArray) (zs : List Int) (w : World) (e : Ending) (w' : World) : Prop :=
  ∃ ys, e = .returned (.int .i64 (moveOut xs s.data.toList t zs).length) ∧ LedgerAt w' B g m mm f n us ys ∧ view ys = moveV (view xs) s.data.toList t.data.toList (moveOut xs s.data.toList t zs) ∧ ys.length ≤ xs.length + 1 ∧ Below B w w'
theorem map_nocell {w : World} {P : Program} {k : TypeId} {R : Value → Option (DataW Unit × List MemPlace)} {b n : Nat} {D : DataW Unit} (h : w.ownsMap P k R b n D) (o : Nat) : w.cell? ⟨b, o, none⟩ = none := by
  obtain ⟨es, c, h1, _⟩ := h
  simp [World.cell?, h1]
theorem sumV_set {vs : List AV} {nm : List UInt8} {F : AV → AV} (h : ∀ v, (F v).2.1 = v.2.1) : ((setV vs nm F).map fun v => v.2.1).sum = (vs.map fun v => v.2.1).sum := by
  unfold setV
  rw [List.map_map]
  congr 1
  apply List.map_congr_left
  intro v _
  simp only [Function.comp]
  split
  · exact h v
  · rfl
set_option maxRecDepth 100000 in
set_option maxHeartbeats 4000000 in
theorem move_any {B g m mm : Nat} {f n : Int} {us : List Int} {xs : List Acc} (s t : ByteArray) (A : Option Addr) (k c : Nat) (zs : List Int) (w : World) (h : LedgerAt w B g m mm f n us xs) (hs : s.size ≤ maxLen) (ht : t.size ≤ maxLen) (hz : Ints w .i64 A k zs) (hk : k ≤ 1000000) (hB : B ≤ w.heap.size) (hfew : xs.length < 1000000) :
    Calls Try.prog 18 #[.pointer (some ⟨g, 0, none⟩), .string s, .string t, .slice A k c] w (MoveSays B g m mm f n us xs s t zs w) := by
  cases hf : findA xs s.data.toList with
  | none =>
    have HO := Lib.hid (show moveOut xs s.data.toList t zs = [] from by unfold moveOut; rw [hf])
    have HF := Lib.hid (show ptrOf (findA xs s.data.toList) = .pointer none from by rw [hf]; rfl)
    clear hf
    go_enter Try.func18, Try.ntmps18
    go_wp2_with (go_at_call 26; refine (find_any s _ h hs).mono ?_; rw [HF.out]; rintro e w1 ⟨rfl, rfl⟩)
    go_ret
    unfold MoveSays
    rw [HO.out]
    exact ⟨xs, rfl, h, (if_pos rfl).symm, by omega, Below.refl _ _⟩
  | some a =>
    have HF := Lib.hid (show ptrOf (findA xs s.data.toList) = .pointer (some ⟨a.ab, 0, none⟩) from by rw [hf]; rfl)
    by_cases h2 : 1 ≤ t.size ∧ t.size ≤ 15
    rotate_left
    · have HO := Lib.hid (show moveOut xs s.data.toList t zs = [] from by unfold moveOut; rw [hf]; exact if_neg h2)
      have HD := Lib.hid (decide_eq_false h2)
      clear h2 hf
      go_enter Try.func18, Try.ntmps18
      go_wp2_with (first
        | (go_at_call 26; refine (find_any s _ h hs).mono ?_; rw [HF.out]; rintro e w1 ⟨rfl, rfl⟩)
        | (go_at_call 23; refine (known_any t _ ht).mono ?_; rw [HD.out]; rintro e w1 ⟨rfl, rfl⟩))
      go_ret
      unfold MoveSays
      rw [HO.out]
      exact ⟨xs, rfl, h, (if_pos rfl).symm, by omega, Below.refl _ _⟩
    obtain ⟨ha, hn⟩ := findA_some hf
    have OL := outLaw a.held zs
    obtain ⟨O, hO⟩ : ∃ O, O = (outAll a.held zs).2 := ⟨_, rfl⟩
    have HO := Lib.hid (show moveOut xs s.data.toList t zs = O from by unfold moveOut; rw [hf, hO]; exact if_pos h2)
    have HO2 := Lib.hid (show (outAll a.held zs).2 = O from hO.symm)
    have HO1 := Lib.hid (show (outAll a.held zs).1 = lessU a.held O from by rw [hO]; exact OL.left)
    have hnd : O.Nodup := by rw [hO]; exact OL.nodup
    have hsubH : ∀ z ∈ O, z ∈ a.held := fun z hz => (OL.sub z (by rw [← hO]; exact hz)).1
    have hsub : ∀ z ∈ O, z ∈ us := fun z hz => h.sub ha z (hsubH z hz)
    have HLn := Lib.hid (lessU_len h.pool.set.rising.nodup hnd hsub)
    have hOl : O.length ≤ 4096 := by have := HLn.out; have := h.few; omega
    have HN := Lib.hid hn
    have HSub := Lib.hid hsub
    have HSubH := Lib.hid hsubH
    have HD := Lib.hid (decide_eq_true h2)
    have H2 := Lib.hid h2
    have hacc := h.acc a ha
    have HL1 : LedgerLaw n (lessU us O) (setA xs a.name (toHeld (lessU a.held O))) := by
      refine h.law.setTo h.apart (fun x hx y hy => h.mem.one hx hy) ha (fun _ => rfl) (h.law.pos a ha) ?_ (fun z => ?_) (fun z hz => ?_)
      · show sumL xs - a.left + a.left + _ ≤ n
        have := h.law.room; have := HLn.out; omega
      · show z ∈ lessU us O ↔ z ∈ lessU a.held O ∨ (z ∈ us ∧ z ∉ a.held)
        unfold lessU
        rw [List.mem_filter, List.mem_filter]
        have h1 := h.sub ha z
        have h2 := HSubH.out z
        simp only [decide_eq_true_eq]
        by_cases hz : z ∈ a.held
        · simp [hz, h1 hz]
        · simp [hz]; exact fun _ ho => hz (h2 ho)
      · exact .inl (List.mem_filter.1 (show z ∈ lessU a.held O from hz)).1
    have HS1 : sumL (setA xs a.name (toHeld (lessU a.held O))) = sumL xs := by rw [sumL_set h.apart ha rfl]; show sumL xs - a.left + a.left = _; omega
    have HV1 : view (setA xs a.name (toHeld (lessU a.held O))) = setV (view xs) a.name (lessV O) := view_set (fun x hx e => by rw [h.mem.one hx ha e]; rfl)
    have HLaw := Lib.hid HL1
    have HSum := Lib.hid HS1
    have HView := Lib.hid HV1
    clear h2 hf hn hsub hsubH OL hO hnd HL1 HS1 HV1
    by_cases h0 : O.length = 0
    · have hz0 : ((O.length : Int) == 0) = true := beq_iff_eq.2 (by omega)
      have HE := Lib.hid (List.eq_nil_of_length_eq_zero h0)
      clear h0
      go_enter Try.func18, Try.ntmps18
      go_wp2_with (first
        | (go_at_call 26; refine (find_any s _ h hs).mono ?_; rw [HF.out]; rintro e w1 ⟨rfl, rfl⟩)
        | (go_at_call 23; refine (known_any t _ ht).mono ?_; rw [HD.out]; rintro e w1 ⟨rfl, rfl⟩)
        | (go_at_call 33; refine (out_any B a A k c zs _ hacc hz hk).mono ?_; rintro e w2 ⟨v, rfl, hown, hset, hgr⟩
           rw [HO2.out] at hown
           rw [HO1.out] at hset
           obtain ⟨A2, c2, rfl, hints⟩ := own_ints hown (fun z hz => by have := h.pool.ins z (HSub.out z hz); have := h.pool.rng; exact wf_i64 (by omega)) (by unfold maxLen; omega)
           have hM2 := h.mem.heldTo ha hset hgr))
      go_ret
      unfold MoveSays
      rw [HO.out]
      have hE := HE.out
      subst hE
      have hl := HLaw.out
      have hle : lessU us [] = us := List.filter_eq_self.2 (by simp)
      rw [hle] at hl
      refine ⟨_, rfl, ⟨hM2, hl⟩, ?_, by rw [setA_len]; omega, (Below.refl B w).grown hgr hB (fun j hj => by cases hj; exact hacc.low.2)⟩
      rw [HView.out]
      show setV (view xs) a.name (lessV []) = if ([] : List Int) = [] then view xs else _
      rw [if_pos rfl]
      unfold setV
      conv => rhs; rw [← List.map_id (view xs)]
      apply List.map_congr_left
      intro v _
      split
      · show (v.1, v.2.1, lessU v.2.2 []) = v
        rw [show lessU v.2.2 [] = v.2.2 from List.filter_eq_self.2 (by simp)]
      · rfl
    · have hz0 : ((O.length : Int) == 0) = false := beq_eq_false_iff_ne.2 (by omega)
      have hz1 : decide ((O.length : Int) = 0) = false := decide_eq_false (by omega)
      have HE := Lib.hid (show O ≠ [] from fun e => h0 (by rw [e]; rfl))
      have hmmn := map_nocell h.own
      go_enter Try.func18, Try.ntmps18
      go_wp2_with (first
        | (go_at_call 26; refine (find_any s _ h hs).mono ?_; rw [HF.out]; rintro e w1 ⟨rfl, rfl⟩)
        | (go_at_call 23; refine (known_any t _ ht).mono ?_; rw [HD.out]; rintro e w1 ⟨rfl, rfl⟩)
        | (go_at_call 33; refine (out_any B a A k c zs _ hacc hz hk).mono ?_; rintro e w2 ⟨v, rfl, hown, hset, hgr⟩
           rw [HO2.out] at hown
           rw [HO1.out] at hset
           obtain ⟨A2, c2, rfl, hints⟩ := own_ints hown (fun z hz => by have := h.pool.ins z (HSub.out z hz); have := h.pool.rng; exact wf_i64 (by omega)) (by unfold maxLen; omega)
           have hM2 := h.mem.heldTo ha hset hgr
           have hB2 : B ≤ w2.heap.size := Nat.le_trans hB hgr.size
           have hfew2 : (setA xs a.name (toHeld (lessU a.held O))).length < 1000000 := by rw [setA_len]; exact hfew)
        | (go_at_call 25; refine (make_any t _ hM2 H2.out hB2 hfew2).mono ?_; rintro e w3 ⟨ys, x, rfl, hx, hxn, hM3, hlaw3, hv3, hl3, hg3⟩
           have hints3 := ints_keep hints hg3 (map_nocell hM2.own)
           have HXN := Lib.hid hxn
           have HV3 := Lib.hid hv3
           have HL3 := Lib.hid (hlaw3 _ HLaw.out)
           clear hxn hv3 hlaw3))
      have hset3 : SetAt w3 x.hb x.held := (hM3.acc x hx).set
      obtain ⟨d0, d1, d2⟩ := (hM3.acc x hx).cells
      have hne : x.ab ≠ x.hb := (hM3.acc x hx).ne (hM3.acc x hx)
      have hab : x.ab < w3.heap.size := lt_of_block (hM3.acc x hx).blk
      have hbel3 : Below B w w3 := ((Below.refl B w).grown hgr hB (fun j hj => by cases hj; exact hacc.low.2)).grown hg3 hB2 (fun j hj => by cases hj; exact h.mem.low.2.2)
      have hB3 : B ≤ w3.heap.size := Nat.le_trans hB2 hg3.size
      have HFW := Lib.hid (show (x.held.length : Int) ≤ n from by
        have := rising_len hset3.rising (a := f) (b := f + n) (by have := h.pool.rng; omega) (fun z hz => h.pool.ins z (by
          have := (HL3.out.held z).2 ⟨x, hx, hz⟩
          exact (List.mem_filter.1 this).1))
        omega)
      have hn4 := h.few.2.2.1
      clear hints hown hset d0 d2 hmmn
      go_loopw [35] (fun i wr => ∃ j : Nat, j ≤ O.length ∧ i = .int .i64 j ∧ SetAt wr x.hb (insAll x.held (O.take j)) ∧ w3.grownBy wr (some x.hb)) (fun i _ => O.length - (intOf i).toNat)
      case atStart => exact ⟨0, Nat.zero_le _, rfl, hset3, World.grownBy.refl _ _⟩
      case round =>
        obtain ⟨j, hj, rfl, hset, hgr4⟩ := hrel
        by_cases hlt : j < O.length
        · have hints4 := ints_keep hints3 hgr4 hset3.nocell
          obtain ⟨b, off, rfl, hb, hc⟩ := hints4.get hlt
          have hwf := hints4.wf _ (List.getElem_mem hlt)
          have hcell : wr.cell? ⟨x.ab, 1, none⟩ = some (.map (some x.hb)) := (World.cell?_of_block (a := ⟨x.ab, 1, none⟩) (hgr4.block _ hab (fun e => hne (by injection e)))).trans d1
          have hlen : (insAll x.held (O.take j)).length ≤ 8192 := by
            have h1 := len_insAll_le (O.take j) x.held
            have h2 := HFW.out
            rw [List.length_take] at h1; omega
          have HN2 := Lib.hid (show insAll x.held (O.take (j + 1)) = ins O[j] (insAll x.held (O.take j)) from by rw [List.take_succ_eq_append_getElem hlt, insAll_snoc])
          clear hints4
          go_wp2_with (at_mapUpdate; refine wpList_mapUpdate_own _ rfl _ _ _ 37 rfl 3 61 int_law Try.underlying37 _ x.hb _ (setD (insAll x.held (O.take j))) rfl hset.own (by unfold maxLen; omega) _ _ _ rfl rfl (keyOf_int_mk Try.underlying3 hwf) _ [] unitElem_mk ?_; intro w5 hown5 hgrow5)
          rw [put_setD _ _ hset.rising] at hown5
          have hset5 : SetAt w5 x.hb (insAll x.held (O.take (j + 1))) := by rw [HN2.out]; exact SetAt.of_own hown5 (rising_ins hset.rising)
          clear hown5
          go_wp2
          go_roundw
          case rel => exact ⟨j + 1, by omega, by go_num, hset5, grown_trans' hgr4 hgrow5⟩
          case measure => simp [intOf]; omega
        · have HT2 := Lib.hid (show O.take j = O from List.take_of_length_le (by omega))
          rw [HT2.out] at hset
          have hM5 := hM3.heldTo hx hset hgr4
          have hd : decide ((j : Int) < (O.length : Int)) = false := decide_eq_false (by omega)
          go_wp2_with fail
          go_ret
          unfold MoveSays
          rw [HO.out]
          have hv := HV3.out
          have hL := HL3.out
          have hsum : sumL ys = sumL xs := by rw [sumV, hv, sum_makeV, ← sumV, HSum.out]
          refine ⟨_, rfl, ⟨hM5, ?_⟩, ?_, by rw [setA_len]; have := hl3; rw [setA_len] at this; exact this, hbel3.grown hgr4 hB3 (fun j hj => by cases hj; exact (hM3.acc x hx).low.2)⟩
          · refine hL.setTo hM3.apart (fun y hy z hz => hM3.one hy hz) hx (fun _ => rfl) (hL.pos x hx) ?_ (fun z => ?_) (fun z hz => ?_)
            · show sumL ys - x.left + x.left + _ ≤ n
              have := h.law.room; omega
            · show z ∈ us ↔ z ∈ insAll x.held O ∨ (z ∈ lessU us O ∧ z ∉ x.held)
              have h1 : z ∈ x.held → z ∈ us := fun hz => (List.mem_filter.1 ((hL.held z).2 ⟨x, hx, hz⟩)).1
              have h2 := HSub.out z
              rw [mem_insAll]
              unfold lessU
              rw [List.mem_filter]
              simp only [decide_eq_true_eq]
              constructor
              · intro hz
                by_cases h3 : z ∈ O
                · exact .inl (.inr h3)
                · by_cases h4 : z ∈ x.held
                  · exact .inl (.inl h4)
                  · exact .inr ⟨⟨hz, h3⟩, h4⟩
              · rintro ((h3 | h3) | ⟨⟨h3, _⟩, _⟩)
                · exact h1 h3
                · exact h2 h3
                · exact h3
            · rcases mem_insAll.1 (show z ∈ insAll x.held O from hz) with hz | hz
              · exact .inl hz
              · refine .inr (fun h3 => ?_)
                have := (List.mem_filter.1 h3).2
                simp at this
                exact this hz
          · unfold moveV
            rw [if_neg HE.out, ← HN.out, ← HView.out, ← HXN.out]
            have hv' := HV3.out
            rw [← HXN.out] at hv'
            rw [← hv']
            exact view_set (fun y hy e => by rw [hM3.one hy hx e]; rfl)
end Go.Proofs.Ytopjmjobpkpmlaa
