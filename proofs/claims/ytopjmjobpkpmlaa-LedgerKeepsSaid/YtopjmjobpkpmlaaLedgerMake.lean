/-
  The package ledger: make, Reserve, New.
-/
import Derived.Test.YtopjmjobpkpmlaaLedgerCalls
namespace Go.Proofs.Ytopjmjobpkpmlaa
open Go.RowKit Go.Maps

/-- What is to be seen of an account: its name, what it may draw, what it holds. -/
abbrev AV := List UInt8 × Int × List Int
def vw (a : Acc) : AV := (a.name, a.left, a.held)
def view (xs : List Acc) : List AV := xs.map vw
def insV (x : AV) : List AV → List AV
  | [] => [x]
  | y :: r => if bytesBefore x.1 y.1 then x :: y :: r else y :: insV x r
def makeV (vs : List AV) (nm : List UInt8) : List AV := if vs.any (fun v => v.1 == nm) then vs else insV (nm, 0, []) vs
def setV (vs : List AV) (nm : List UInt8) (F : AV → AV) : List AV := vs.map fun v => if v.1 = nm then F v else v
def addV (k : Int) (v : AV) : AV := (v.1, v.2.1 + k, v.2.2)
def reserveV (vs : List AV) (nm : List UInt8) (k : Int) : List AV := setV (makeV vs nm) nm (addV k)
theorem view_ins (x : Acc) : ∀ xs : List Acc, view (insA x xs) = insV (vw x) (view xs)
  | [] => rfl
  | y :: r => by
    have ih := view_ins x r
    unfold insA
    unfold view at *
    simp only [List.map_cons, insV]
    by_cases hb : bytesBefore x.name y.name = true
    · rw [if_pos hb, if_pos (show bytesBefore (vw x).1 (vw y).1 = true from hb)]; rfl
    · rw [if_neg hb, if_neg (show ¬ bytesBefore (vw x).1 (vw y).1 = true from hb), ← ih]; rfl
theorem view_set {xs : List Acc} {nm : List UInt8} {f : Acc → Acc} {F : AV → AV} (h : ∀ a ∈ xs, a.name = nm → vw (f a) = F (vw a)) : view (setA xs nm f) = setV (view xs) nm F := by
  unfold view setA setV
  rw [List.map_map, List.map_map]
  apply List.map_congr_left
  intro a ha
  simp only [Function.comp]
  by_cases e : a.name = nm
  · rw [if_pos e, if_pos (show (vw a).1 = nm from e), h a ha e]
  · rw [if_neg e, if_neg (show ¬ (vw a).1 = nm from e)]
theorem any_view (xs : List Acc) (nm : List UInt8) : (view xs).any (fun v => v.1 == nm) = (findA xs nm).isSome := by
  unfold view findA
  rw [List.any_map, Bool.eq_iff_iff, List.find?_isSome]
  simp [vw]
theorem LedgerLaw.setLeft {n : Int} {us : List Int} {xs : List Acc} (h : LedgerLaw n us xs) (hp : xs.Pairwise (fun x y => x.name ≠ y.name)) {a : Acc} (ha : a ∈ xs) {v : Int} (hv : 0 ≤ v) (hr : sumL xs - a.left + v + us.length ≤ n) :
    LedgerLaw n us (setA xs a.name (toLeft v)) := by
  have key : ∀ y ∈ setA xs a.name (toLeft v), ∃ x ∈ xs, y.name = x.name ∧ y.held = x.held ∧ 0 ≤ y.left := by
    intro y hy
    obtain ⟨x, hx, rfl⟩ := mem_setA.1 hy
    by_cases e : x.name = a.name
    · rw [if_pos e]; exact ⟨x, hx, rfl, rfl, hv⟩
    · rw [if_neg e]; exact ⟨x, hx, rfl, rfl, h.pos x hx⟩
  refine ⟨fun y hy => ?_, fun y hy => ?_, ?_, fun z => ?_, fun y hy y' hy' z hz hz' => ?_⟩
  · obtain ⟨x, hx, e, _⟩ := key y hy; rw [e]; exact h.name x hx
  · obtain ⟨x, hx, _, _, e⟩ := key y hy; exact e
  · rw [sumL_set hp ha rfl]; exact hr
  · rw [h.held z]
    constructor
    · rintro ⟨x, hx, hz⟩
      refine ⟨if x.name = a.name then toLeft v x else x, mem_setA.2 ⟨x, hx, rfl⟩, ?_⟩
      split <;> exact hz
    · rintro ⟨y, hy, hz⟩
      obtain ⟨x, hx, _, e, _⟩ := key y hy
      exact ⟨x, hx, by rw [← e]; exact hz⟩
  · obtain ⟨x, hx, e1, e2, _⟩ := key y hy
    obtain ⟨x', hx', e1', e2', _⟩ := key y' hy'
    rw [e1, e1']
    exact h.once x hx x' hx' z (by rw [← e2]; exact hz) (by rw [← e2']; exact hz')
theorem LedgerLaw.made {n : Int} {us : List Int} {xs : List Acc} (h : LedgerLaw n us xs) {x : Acc} (hl : x.left = 0) (hh : x.held = []) (hn : 1 ≤ x.name.length ∧ x.name.length ≤ 15) : LedgerLaw n us (insA x xs) := by
  refine ⟨fun y hy => ?_, fun y hy => ?_, ?_, fun z => ?_, fun y hy y' hy' z hz hz' => ?_⟩
  · rcases mem_insA.1 hy with rfl | hy
    · exact hn
    · exact h.name y hy
  · rcases mem_insA.1 hy with rfl | hy
    · omega
    · exact h.pos y hy
  · rw [sumL_ins, hl]; have := h.room; omega
  · rw [h.held z]
    constructor
    · rintro ⟨y, hy, hz⟩; exact ⟨y, mem_insA.2 (.inr hy), hz⟩
    · rintro ⟨y, hy, hz⟩
      rcases mem_insA.1 hy with rfl | hy
      · rw [hh] at hz; simp at hz
      · exact ⟨y, hy, hz⟩
  · rcases mem_insA.1 hy with rfl | hy
    · rw [hh] at hz; simp at hz
    · rcases mem_insA.1 hy' with rfl | hy'
      · rw [hh] at hz'; simp at hz'
      · exact h.once y hy y' hy' z hz hz'
theorem data_len (s : ByteArray) : s.data.toList.length = s.size := by simp
theorem LedgerMem.find {w : World} {B g m mm : Nat} {f n : Int} {us : List Int} {xs : List Acc} (h : LedgerMem w B g m mm f n us xs) {x : Acc} (hx : x ∈ xs) : findA xs x.name = some x := by
  cases hf : findA xs x.name with
  | none => exact absurd rfl (findA_none hf x hx)
  | some y =>
    obtain ⟨hy, e⟩ := findA_some hf
    rw [h.one hy hx e]
def MakeSays (B g m mm : Nat) (f n : Int) (us : List Int) (xs : List Acc) (s : ByteArray) (w : World) (e : Ending) (w' : World) : Prop :=
  ∃ ys x, e = .returned (.pointer (some ⟨x.ab, 0, none⟩)) ∧ x ∈ ys ∧ x.name = s.data.toList ∧ LedgerMem w' B g m mm f n us ys ∧ (∀ vs, LedgerLaw n vs xs → LedgerLaw n vs ys) ∧ view ys = makeV (view xs) s.data.toList ∧ ys.length ≤ xs.length + 1 ∧ w.grownBy w' (some mm)
set_option maxRecDepth 100000 in
set_option maxHeartbeats 2000000 in
theorem make_any {B g m mm : Nat} {f n : Int} {us : List Int} {xs : List Acc} (s : ByteArray) (w : World) (h : LedgerMem w B g m mm f n us xs) (hs : 1 ≤ s.size ∧ s.size ≤ 15) (hB : B ≤ w.heap.size) (hfew : xs.length < 1000000) :
    Calls Try.prog 25 #[.pointer (some ⟨g, 0, none⟩), .string s] w (MakeSays B g m mm f n us xs s w) := by
  have c3 := h.c3
  have hsm : s.size ≤ maxLen := by unfold maxLen; omega
  cases hf : findA xs s.data.toList with
  | some a =>
    have hlk : (Instr.lookup 40 (.map (some mm)) (.string s) false).run Try.prog w = .ok (.pointer (some ⟨a.ab, 0, none⟩)) w := by rw [look_acc h.own s hsm, hf]; rfl
    have HF := Lib.hid hf
    clear hf
    go_enter Try.func25, Try.ntmps25
    go_wp2
    go_ret
    obtain ⟨ha, hn⟩ := findA_some HF.out
    refine ⟨xs, a, rfl, ha, hn, h, fun _ h => h, ?_, by omega, World.grownBy.refl _ _⟩
    unfold makeV
    rw [any_view, HF.out]; rfl
  | none =>
    have hlk : (Instr.lookup 40 (.map (some mm)) (.string s) false).run Try.prog w = .ok (.pointer none) w := by rw [look_acc h.own s hsm, hf]; rfl
    have hmm := @run_makeMap Try.prog
    have HF := Lib.hid hf
    clear hf
    obtain ⟨x, hx⟩ : ∃ x : Acc, x = ⟨s.data.toList, 0, [], w.heap.size + 1, w.heap.size⟩ := ⟨_, rfl⟩
    have HX := Lib.hid hx
    have HN := Lib.hid (show s.data.toList = x.name from by rw [hx])
    have HA := Lib.hid (show w.heap.size + 1 = x.ab from by rw [hx])
    clear hx
    have hkey := WideMaps.keyOf_string_mk (P := Try.prog) Try.underlying9 hsm
    have hlt := h.pool.lt
    go_enter Try.func25, Try.ntmps25
    go_wp2_with (first
      | (at_mapUpdate; refine wpList_mapUpdate_own _ rfl _ _ _ 40 rfl 9 58 str_law Try.underlying40 ptrElem mm _ (accD xs) rfl ((h.own.alloc (.map #[] 0)).alloc (.cells #[.int .i64 0, .map (some w.heap.size)] 57)) (by unfold maxLen; omega) _ _ _ rfl rfl hkey _ [] (ptrElem_mk (w.heap.size + 1)) ?_; intro w1 hown1 hgrow1
         rw [HN.out, HA.out, put_accD xs x (by rw [← HN.out]; exact findA_none HF.out)] at hown1
         have hM := h.made hB (x := x) (by rw [HX.out]; exact ⟨rfl, rfl, rfl, rfl⟩) hown1 hgrow1
         have d3 := hM.c3
         have hlk3 : (Instr.lookup 40 (.map (some mm)) (.string s) false).run Try.prog w1 = .ok (.pointer (some ⟨w.heap.size + 1, 0, none⟩)) w1 := by
           rw [look_acc hown1 s hsm, HN.out, hM.find (mem_insA.2 (.inl rfl)), HA.out]; rfl))
    go_ret
    refine ⟨insA x xs, x, by rw [← HA.out]; rfl, mem_insA.2 (.inl rfl), HN.out.symm, hM, fun vs hv => hv.made (by rw [HX.out]) (by rw [HX.out]) (by rw [← HN.out, data_len]; exact hs), ?_, by rw [insA_len]; exact Nat.le_refl _, ?_⟩
    · unfold makeV
      rw [any_view, HF.out, view_ins, HX.out]; rfl
    · exact grown_trans' (grown_of_below (((Below.refl _ _).alloc (Nat.le_refl _) _).alloc (by simp) _) _) hgrow1
/-- What Reserve answers. -/
def resErr (n : Int) (us : List Int) (xs : List Acc) (s : ByteArray) (k : Int) : Int := if k < 0 ∨ ¬ (1 ≤ s.size ∧ s.size ≤ 15) then 1 else if openOf n us xs < k then 20 else 0
def ReserveSays (B g m mm : Nat) (f n : Int) (us : List Int) (xs : List Acc) (s : ByteArray) (k : Int) (w : World) (e : Ending) (w' : World) : Prop :=
  ∃ ys, e = .returned (.int .i64 (resErr n us xs s k)) ∧ LedgerAt w' B g m mm f n us ys ∧ view ys = (if resErr n us xs s k = 0 then reserveV (view xs) s.data.toList k else view xs) ∧ ys.length ≤ xs.length + 1 ∧ Below B w w'
theorem setA_len (xs : List Acc) (nm : List UInt8) (F : Acc → Acc) : (setA xs nm F).length = xs.length := by unfold setA; simp
theorem sumV (xs : List Acc) : sumL xs = ((view xs).map fun v => v.2.1).sum := by
  unfold sumL view; rw [List.map_map]; rfl
theorem sum_insV (x : AV) : ∀ vs : List AV, ((insV x vs).map fun v => v.2.1).sum = x.2.1 + (vs.map fun v => v.2.1).sum
  | [] => by simp [insV]
  | y :: r => by
    have := sum_insV x r
    unfold insV
    split <;> (simp only [List.map_cons, List.sum_cons]; try omega)
theorem sum_makeV (vs : List AV) (nm : List UInt8) : ((makeV vs nm).map fun v => v.2.1).sum = (vs.map fun v => v.2.1).sum := by
  unfold makeV
  split
  · rfl
  · rw [sum_insV]; simp
set_option maxRecDepth 100000 in
set_option maxHeartbeats 2000000 in
theorem reserve_any {B g m mm : Nat} {f n : Int} {us : List Int} {xs : List Acc} (s : ByteArray) (k : Int) (w : World) (h : LedgerAt w B g m mm f n us xs) (hs : s.size ≤ maxLen) (hk : -9223372036854775808 ≤ k ∧ k ≤ 9223372036854775807) (hB : B ≤ w.heap.size) (hfew : xs.length < 1000000) :
    Calls Try.prog 9 #[.pointer (some ⟨g, 0, none⟩), .string s, .int .i64 k] w (ReserveSays B g m mm f n us xs s k w) := by
  obtain ⟨hk1, hk2⟩ := hk
  by_cases h1 : k < 0
  · have HE := Lib.hid (show resErr n us xs s k = 1 from if_pos (.inl h1))
    go_enter Try.func9, Try.ntmps9
    go_wp2
    go_ret
    unfold ReserveSays
    rw [HE.out]
    exact ⟨xs, rfl, h, rfl, by omega, Below.refl _ _⟩
  by_cases h2 : 1 ≤ s.size ∧ s.size ≤ 15
  rotate_left
  · have HE := Lib.hid (show resErr n us xs s k = 1 from if_pos (.inr h2))
    have HD := Lib.hid (decide_eq_false h2)
    clear h2
    go_enter Try.func9, Try.ntmps9
    go_wp2_with (go_at_call 23; refine (known_any s _ hs).mono ?_; rw [HD.out]; rintro e w1 ⟨rfl, rfl⟩)
    go_ret
    unfold ReserveSays
    rw [HE.out]
    exact ⟨xs, rfl, h, rfl, by omega, Below.refl _ _⟩
  have HD := Lib.hid (decide_eq_true h2)
  have H2 := Lib.hid h2
  clear h2
  obtain ⟨b1, b2, b3, b4⟩ := h.few
  obtain ⟨o, ho⟩ : ∃ o, o = openOf n us xs := ⟨_, rfl⟩
  have HO := Lib.hid ho
  have hob : 0 ≤ o ∧ o ≤ 4096 := by rw [ho]; unfold openOf; omega
  obtain ⟨ho1, ho2⟩ := hob
  clear ho
  by_cases h3 : o < k
  · have HE := Lib.hid (show resErr n us xs s k = 20 from by unfold resErr; rw [if_neg (fun hh => hh.elim h1 (fun hh => hh H2.out)), if_pos (by rw [← HO.out]; exact h3)])
    go_enter Try.func9, Try.ntmps9
    go_wp2_with (first
      | (go_at_call 23; refine (known_any s _ hs).mono ?_; rw [HD.out]; rintro e w1 ⟨rfl, rfl⟩)
      | (go_at_call 24; refine (none_any _ h).mono ?_; rintro e w1 ⟨rfl, rfl⟩)
      | (go_at_call 14; refine (open_any _ h).mono ?_; rw [← HO.out]; rintro e w1 ⟨rfl, hb1⟩))
    go_ret
    unfold ReserveSays
    rw [HE.out]
    exact ⟨xs, rfl, h.bel hb1, rfl, by omega, hb1.mono hB⟩
  · have HE := Lib.hid (show resErr n us xs s k = 0 from by unfold resErr; rw [if_neg (fun hh => hh.elim h1 (fun hh => hh H2.out)), if_neg (by rw [← HO.out]; exact h3)])
    go_enter Try.func9, Try.ntmps9
    go_wp2_with (first
      | (go_at_call 23; refine (known_any s _ hs).mono ?_; rw [HD.out]; rintro e w1 ⟨rfl, rfl⟩)
      | (go_at_call 24; refine (none_any _ h).mono ?_; rintro e w1 ⟨rfl, rfl⟩)
      | (go_at_call 14; refine (open_any _ h).mono ?_; rw [← HO.out]; rintro e w1 ⟨rfl, hb1⟩
         have hB1 : B ≤ w1.heap.size := Nat.le_trans hB hb1.size)
      | (go_at_call 25; refine (make_any s _ (h.bel hb1).mem H2.out hB1 hfew).mono ?_; rintro e w2 ⟨ys, x, rfl, hx, hn, h2m, h2l, hv, hl, hg2⟩
         have h2 : LedgerAt w2 B g m mm f n us ys := ⟨h2m, h2l _ h.law⟩
         have HN := Lib.hid hn
         have HV := Lib.hid hv
         clear hn hv
         obtain ⟨d0, d1, d2⟩ := (h2.acc x hx).cells
         obtain ⟨q1, q2⟩ := h2.left_bd hx))
    go_ret
    unfold ReserveSays
    rw [HE.out]
    have hv := HV.out
    have hsum : sumL ys = sumL xs := by rw [sumV, sumV, hv, sum_makeV]
    have ho := HO.out
    unfold openOf at ho
    refine ⟨setA ys x.name (toLeft (x.left + k)), rfl, ⟨h2.mem.left hx _, h2.law.setLeft h2.apart hx (by omega) (by rw [hsum]; omega)⟩, ?_, by rw [setA_len]; exact hl, ?_⟩
    · rw [if_pos rfl]
      unfold reserveV
      rw [← hv, ← HN.out]
      exact view_set (fun a ha e => by rw [h2.mem.one ha hx e]; rfl)
    · exact ((hb1.mono hB).grown hg2 hB1 (fun j hj => by cases hj; exact h.mem.low.2.2)).setCell (h2.acc x hx).low.1 _
end Go.Proofs.Ytopjmjobpkpmlaa
