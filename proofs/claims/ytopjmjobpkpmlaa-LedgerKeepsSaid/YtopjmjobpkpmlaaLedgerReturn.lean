/-
  The package ledger: Return, Close.
-/
import Derived.Test.YtopjmjobpkpmlaaLedgerDraw
import Derived.Deep.RegionWith
namespace Go.Proofs.Ytopjmjobpkpmlaa
open Go.RowKit Go.Maps

def retOut (xs : List Acc) (nm : List UInt8) (zs : List Int) : List Int := match findA xs nm with | none => [] | some a => (outAll a.held zs).2
def retV (O : List Int) (v : AV) : AV := (v.1, v.2.1 + O.length, v.2.2.filter fun x => decide (x ∉ O))
def lessU (us O : List Int) : List Int := us.filter fun x => decide (x ∉ O)
def ReturnSays (B g m mm : Nat) (f n : Int) (us : List Int) (xs : List Acc) (s : ByteArray) (zs : List Int) (w : World) (e : Ending) (w' : World) : Prop :=
  ∃ ys, e = .returned (.int .i64 (retOut xs s.data.toList zs).length) ∧ LedgerAt w' B g m mm f n (lessU us (retOut xs s.data.toList zs)) ys ∧ view ys = setV (view xs) s.data.toList (retV (retOut xs s.data.toList zs)) ∧ ys.length = xs.length ∧ Below B w w'
theorem give_out {us O : List Int} (hn : O.Nodup) (hs : ∀ z ∈ O, z ∈ us) : (giveAll us O).1 = lessU us O ∧ (giveAll us O).2 = (O.length : Int) := by
  have := giveAll_sub (c := 0) hn hs
  unfold giveAll
  rw [this]
  exact ⟨rfl, by simp⟩
theorem lessU_len {us O : List Int} (hr : us.Nodup) (hn : O.Nodup) (hs : ∀ z ∈ O, z ∈ us) : (lessU us O).length + O.length = us.length := by
  have h1 := length_parts (fun x => decide (x ∉ O)) us
  have h2 : (us.filter fun x => !decide (x ∉ O)).Perm O := by
    rw [List.perm_iff_count]
    intro z
    have hz1 := List.nodup_iff_count.1 (show (us.filter fun x => !decide (x ∉ O)).Nodup from List.Pairwise.filter _ hr) z
    have hz2 := List.nodup_iff_count.1 hn z
    have hm : z ∈ (us.filter fun x => !decide (x ∉ O)) ↔ z ∈ O := by
      rw [List.mem_filter]; simp
      exact fun h => hs z h
    by_cases hz : z ∈ O
    · have a1 := List.count_pos_iff.2 (hm.2 hz)
      have a2 := List.count_pos_iff.2 hz
      omega
    · rw [List.count_eq_zero.2 hz, List.count_eq_zero.2 (fun h => hz (hm.1 h))]
  have h3 := h2.length_eq
  unfold lessU
  omega
set_option maxRecDepth 100000 in
set_option maxHeartbeats 4000000 in
theorem return_any {B g m mm : Nat} {f n : Int} {us : List Int} {xs : List Acc} (s : ByteArray) (A : Option Addr) (k c : Nat) (zs : List Int) (w : World) (h : LedgerAt w B g m mm f n us xs) (hs : s.size ≤ maxLen) (hz : Ints w .i64 A k zs) (hk : k ≤ 1000000) (hB : B ≤ w.heap.size) :
    Calls Try.prog 19 #[.pointer (some ⟨g, 0, none⟩), .string s, .slice A k c] w (ReturnSays B g m mm f n us xs s zs w) := by
  obtain ⟨nm, hnm⟩ : ∃ nm, nm = s.data.toList := ⟨_, rfl⟩
  have HNM := Lib.hid hnm
  clear hnm
  cases hf : findA xs s.data.toList with
  | none =>
    have HO := Lib.hid (show retOut xs s.data.toList zs = [] from by unfold retOut; rw [hf])
    have HF := Lib.hid (show ptrOf (findA xs s.data.toList) = .pointer none from by rw [hf]; rfl)
    have HV := Lib.hid (show setV (view xs) s.data.toList (retV []) = view xs from by
      have := findA_none hf
      rw [← view_set (xs := xs) (nm := s.data.toList) (f := id) (F := retV []) (fun a ha e => absurd e (this a ha)), setA_none this])
    have HU := Lib.hid (show lessU us [] = us from List.filter_eq_self.2 (by simp))
    clear hf
    go_enter Try.func19, Try.ntmps19
    go_wp2_with (go_at_call 26; refine (find_any s _ h hs).mono ?_; rw [HF.out]; rintro e w1 ⟨rfl, rfl⟩)
    go_ret
    unfold ReturnSays
    rw [HO.out, HV.out, HU.out]
    exact ⟨xs, rfl, h, rfl, rfl, Below.refl _ _⟩
  | some a =>
    obtain ⟨ha, hn⟩ := findA_some hf
    have HF := Lib.hid (show ptrOf (findA xs s.data.toList) = .pointer (some ⟨a.ab, 0, none⟩) from by rw [hf]; rfl)
    obtain ⟨l1, l2⟩ := h.left_bd ha
    have OL := outLaw a.held zs
    obtain ⟨O, hO⟩ : ∃ O, O = (outAll a.held zs).2 := ⟨_, rfl⟩
    have HO := Lib.hid (show retOut xs s.data.toList zs = O from by unfold retOut; rw [hf, hO])
    have HO2 := Lib.hid (show (outAll a.held zs).2 = O from hO.symm)
    have HO1 := Lib.hid (show (outAll a.held zs).1 = lessU a.held O from by rw [hO]; exact OL.left)
    have hnd : O.Nodup := by rw [hO]; exact OL.nodup
    have hsub : ∀ z ∈ O, z ∈ us := fun z hz => h.sub ha z (OL.sub z (by rw [← hO]; exact hz)).1
    have hsubH : ∀ z ∈ O, z ∈ a.held := fun z hz => (OL.sub z (by rw [← hO]; exact hz)).1
    have hG := give_out hnd hsub
    have HG1 := Lib.hid hG.1
    have HG2 := Lib.hid hG.2
    have HLn := Lib.hid (lessU_len h.pool.set.rising.nodup hnd hsub)
    have hOl : O.length ≤ 4096 := by have := HLn.out; have := h.few; omega
    have HN := Lib.hid hn
    have HSub := Lib.hid hsub
    have HSubH := Lib.hid hsubH
    have hhb : a.hb < w.heap.size := (h.acc a ha).set.lt
    have hab : a.ab < w.heap.size := lt_of_block (h.acc a ha).blk
    have hne : a.ab ≠ a.hb := (h.acc a ha).ne (h.acc a ha)
    have hglt := h.pool.lt
    clear hf hn hG hsub hsubH OL hO hnd
    go_enter Try.func19, Try.ntmps19
    go_wp2_with (go_at_call 26; refine (find_any s _ h hs).mono ?_; rw [HF.out]; rintro e w1 ⟨rfl, rfl⟩)
    have hD := h.bel ((Below.refl w.heap.size w).drew)
    have hzD := hz.below ((Below.refl w.heap.size w).drew)
    go_region_with (first
      | (go_at_call 33; refine (out_any B a A k c zs _ (hD.acc a ha) hzD hk).mono ?_; rintro e w2 ⟨v, rfl, hown, hset, hgr⟩
         rw [HO2.out] at hown
         rw [HO1.out] at hset
         obtain ⟨A2, c2, rfl, hints⟩ := own_ints hown (fun z hz => by have := h.pool.ins z (HSub.out z hz); have := h.pool.rng; exact wf_i64 (by omega)) (by unfold maxLen; omega)
         have hM2 := hD.mem.heldTo ha hset hgr)
      | (go_at_call 28; refine (give_any g m f n us A2 _ c2 O _ hM2.pool hints).mono ?_; rintro e w3 ⟨rfl, hp3, hg3⟩
         rw [HG2.out]
         rw [HG1.out] at hp3
         have hM3 := hM2.pooled hp3 hg3))
    obtain ⟨d0, d1, d2⟩ := (hM3.acc _ (mem_setA_self ha)).cells
    have e0 : w3.cell? ⟨a.ab, 0, none⟩ = some (.int .i64 a.left) := d0
    have e2 : w3.frozen? ⟨a.ab, 0, none⟩ = false := d2
    have hbel3 : Below B w w3 := (((Below.refl B w).drew.grown hgr hB (fun j hj => by cases hj; exact (h.acc a ha).low.2)).grown hg3 (Nat.le_trans hB hgr.size) (fun j hj => by cases hj; exact h.mem.low.2.1))
    clear d0 d1 d2 hown hset hints hzD
    go_wp2_with fail
    go_ret
    unfold ReturnSays
    rw [HO.out]
    have hS := setA_setA (xs := xs) (nm := a.name) (F := toHeld (lessU a.held O)) (G := toLeft (a.left + O.length)) (fun _ => rfl)
    refine ⟨setA (setA xs a.name (toHeld (lessU a.held O))) a.name (toLeft (a.left + O.length)), rfl, ⟨hM3.left (mem_setA_self ha) _, ?_⟩, ?_, by rw [setA_len, setA_len], hbel3.setCell (h.acc a ha).low.1 _⟩
    · rw [hS]
      refine h.law.setTo h.apart (fun x hx y hy => h.mem.one hx hy) ha (fun _ => rfl) (by show 0 ≤ a.left + (O.length : Int); omega) ?_ (fun z => ?_) (fun z hz => ?_)
      · show sumL xs - a.left + (a.left + (O.length : Int)) + _ ≤ n
        have := h.law.room; have := HLn.out; omega
      · show z ∈ lessU us O ↔ z ∈ lessU a.held O ∨ (z ∈ us ∧ z ∉ a.held)
        unfold lessU
        rw [List.mem_filter, List.mem_filter]
        have h1 := h.sub ha z
        have h2 := HSubH.out z
        simp only [decide_eq_true_eq]
        by_cases hz : z ∈ a.held
        · simp [hz, h1 hz]
        · simp [hz]; exact fun _ ho => hz (h2 ho)
      · exact .inl (List.mem_filter.1 (show z ∈ lessU a.held O from hz)).1
    · rw [hS, ← HN.out]
      exact view_set (fun x hx e => by rw [h.mem.one hx ha e]; rfl)
/-- What Close gives back. -/
def closeV (vs : List AV) (nm : List UInt8) : List AV := vs.filter fun v => decide (v.1 ≠ nm)
def CloseSays (B g m mm : Nat) (f n : Int) (us : List Int) (xs : List Acc) (s : ByteArray) (w : World) (e : Ending) (w' : World) : Prop :=
  ∃ ys, e = .returned (.int .i64 (heldOf (findA xs s.data.toList)).length) ∧ LedgerAt w' B g m mm f n (lessU us (heldOf (findA xs s.data.toList))) ys ∧ view ys = closeV (view xs) s.data.toList ∧ ys.length ≤ xs.length ∧ Below B w w'
theorem view_close (xs : List Acc) (nm : List UInt8) : view (xs.filter fun a => decide (a.name ≠ nm)) = closeV (view xs) nm := by
  unfold view closeV
  rw [List.filter_map]; rfl
theorem sumL_filter_name {xs : List Acc} (h : ∀ a ∈ xs, 0 ≤ a.left) (nm : List UInt8) : 0 ≤ sumL (xs.filter fun a => decide (a.name ≠ nm)) ∧ sumL (xs.filter fun a => decide (a.name ≠ nm)) ≤ sumL xs := sumL_filter_le h _
theorem LedgerAt.closed {w : World} {B g m mm : Nat} {f n : Int} {us : List Int} {xs : List Acc} (h : LedgerAt w B g m mm f n us xs) (nm : List UInt8) : LedgerLaw n (lessU us (heldOf (findA xs nm))) (xs.filter fun a => decide (a.name ≠ nm)) := by
  have sub : ∀ {a}, a ∈ (xs.filter fun a => decide (a.name ≠ nm)) → a ∈ xs ∧ a.name ≠ nm := fun h => by
    have := List.mem_filter.1 h
    exact ⟨this.1, of_decide_eq_true this.2⟩
  have hl : (lessU us (heldOf (findA xs nm))).length ≤ us.length := List.length_filter_le _ _
  have hs := sumL_filter_name h.pos nm
  refine ⟨fun a ha => h.law.name a (sub ha).1, fun a ha => h.law.pos a (sub ha).1, by have := h.law.room; omega, fun z => ?_, fun a ha b hb => h.law.once a (sub ha).1 b (sub hb).1⟩
  unfold lessU
  rw [List.mem_filter, h.law.held z]
  simp only [decide_eq_true_eq]
  constructor
  · rintro ⟨⟨a, ha, hz⟩, hn⟩
    refine ⟨a, List.mem_filter.2 ⟨ha, decide_eq_true (fun e => hn ?_)⟩, hz⟩
    rw [← e, h.mem.find ha]; exact hz
  · rintro ⟨a, ha, hz⟩
    obtain ⟨h1, h2⟩ := sub ha
    refine ⟨⟨a, h1, hz⟩, fun hn => ?_⟩
    cases hf : findA xs nm with
    | none => rw [hf] at hn; simp [heldOf] at hn
    | some b =>
      rw [hf] at hn
      obtain ⟨hb, e⟩ := findA_some hf
      exact h2 (by rw [← e]; exact h.law.once a h1 b hb z hz hn)
set_option maxRecDepth 100000 in
set_option maxHeartbeats 4000000 in
theorem close_any {B g m mm : Nat} {f n : Int} {us : List Int} {xs : List Acc} (s : ByteArray) (w : World) (h : LedgerAt w B g m mm f n us xs) (hs : s.size ≤ maxLen) (hB : B ≤ w.heap.size) :
    Calls Try.prog 11 #[.pointer (some ⟨g, 0, none⟩), .string s] w (CloseSays B g m mm f n us xs s w) := by
  obtain ⟨O, hO⟩ : ∃ O, O = heldOf (findA xs s.data.toList) := ⟨_, rfl⟩
  have HO := Lib.hid (show heldOf (findA xs s.data.toList) = O from hO.symm)
  have hOr : O.Nodup ∧ ∀ z ∈ O, z ∈ us := by
    rw [hO]
    cases hf : findA xs s.data.toList with
    | none => simp [heldOf]
    | some a =>
      obtain ⟨ha, _⟩ := findA_some hf
      exact ⟨(h.acc a ha).set.rising.nodup, h.sub ha⟩
  have hG := give_out hOr.1 hOr.2
  have HG1 := Lib.hid hG.1
  have HG2 := Lib.hid hG.2
  have HLn := Lib.hid (lessU_len h.pool.set.rising.nodup hOr.1 hOr.2)
  have hOl : O.length ≤ 4096 := by have := HLn.out; have := h.few; omega
  have HSub := Lib.hid hOr.2
  have hglt := h.pool.lt
  have hkey := WideMaps.keyOf_string_mk (P := Try.prog) Try.underlying9 hs
  clear hG hOr hO
  go_enter Try.func11, Try.ntmps11
  go_wp2_with (go_at_call 24; refine (none_any _ h).mono ?_; rintro e w1 ⟨rfl, rfl⟩)
  have hD := h.bel ((Below.refl w.heap.size w).drew)
  go_region_with (first
    | (go_at_call 13; refine (holds_any s _ hD hs).mono ?_; rintro e w2 ⟨v, rfl, hown, hb2⟩
       rw [HO.out] at hown
       obtain ⟨A2, c2, rfl, hints⟩ := own_ints hown (fun z hz => by have := h.pool.ins z (HSub.out z hz); have := h.pool.rng; exact wf_i64 (by omega)) (by unfold maxLen; omega)
       have hM2 := (hD.bel hb2).mem)
    | (go_at_call 28; refine (give_any g m f n us A2 _ c2 O _ hM2.pool hints).mono ?_; rintro e w3 ⟨rfl, hp3, hg3⟩
       rw [HG2.out]
       rw [HG1.out] at hp3
       have hM3 := hM2.pooled hp3 hg3))
  have c3 := hM3.c3
  have hbel3 : Below B w w3 := ((Below.refl B w).drew.trans (hb2.mono hB)).grown hg3 (Nat.le_trans hB hb2.size) (fun j hj => by cases hj; exact h.mem.low.2.1)
  clear hown hints
  go_wp2_with (at_delete; refine wpList_delete_own _ rfl _ _ 40 9 rfl 58 str_law Try.underlying40 _ mm _ (accD xs) rfl hM3.own _ _ rfl hkey ?_; intro w4 hown4 hturn4)
  rw [del_accD] at hown4
  have hM4 := hM3.deleted s.data.toList hown4 hturn4.grown
  have hg4 := hturn4.grown
  clear hown4 hturn4
  go_wp2_with fail
  go_ret
  unfold CloseSays
  have hlaw := h.closed s.data.toList
  rw [HO.out] at hlaw ⊢
  exact ⟨_, rfl, ⟨hM4, hlaw⟩, view_close _ _, List.length_filter_le _ _, hbel3.grown hg4 (Nat.le_trans hB (Nat.le_trans hb2.size hg3.size)) (fun j hj => by cases hj; exact h.mem.low.2.2)⟩
end Go.Proofs.Ytopjmjobpkpmlaa
