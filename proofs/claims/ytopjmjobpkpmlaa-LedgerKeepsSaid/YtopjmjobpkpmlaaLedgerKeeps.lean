/-
  LedgerKeeps: its walk.
-/
import Derived.Test.YtopjmjobpkpmlaaOps19
import Derived.Test.YtopjmjobpkpmlaaLedgerCloses
import Derived.Deep.RegionHeld3
namespace Go.Proofs.Ytopjmjobpkpmlaa
open Go.RowKit Go.Maps

theorem nodup_perm {l k : List Int} (hl : l.Nodup) (hk : k.Nodup) (h : ∀ z, z ∈ l ↔ z ∈ k) : l.Perm k := by
  rw [List.perm_iff_count]
  intro z
  have h1 := List.nodup_iff_count.1 hl z
  have h2 := List.nodup_iff_count.1 hk z
  by_cases hz : z ∈ l
  · have a1 := List.count_pos_iff.2 hz
    have a2 := List.count_pos_iff.2 ((h z).1 hz)
    omega
  · rw [List.count_eq_zero.2 hz, List.count_eq_zero.2 (fun hh => hz ((h z).2 hh))]
theorem nodup_flat : ∀ {l : List Acc}, (∀ a ∈ l, a.held.Nodup) → l.Pairwise (fun a b => ∀ z ∈ a.held, z ∉ b.held) → (l.flatMap Acc.held).Nodup
  | [], _, _ => by simp
  | a :: r, h, hp => by
    rw [List.pairwise_cons] at hp
    rw [List.flatMap_cons, List.nodup_append]
    refine ⟨h a (by simp), nodup_flat (fun b hb => h b (by simp [hb])) hp.2, fun z hz y hy e => ?_⟩
    subst e
    rw [List.mem_flatMap] at hy
    obtain ⟨b, hb, hyb⟩ := hy
    exact hp.1 b hb z hz hyb
theorem pairwise_mem {α : Type} {R S : α → α → Prop} : ∀ {l : List α}, l.Pairwise R → (∀ a ∈ l, ∀ b ∈ l, R a b → S a b) → l.Pairwise S
  | [], _, _ => List.Pairwise.nil
  | a :: r, h, k => by
    rw [List.pairwise_cons] at h ⊢
    exact ⟨fun b hb => k a (by simp) b (by simp [hb]) (h.1 b hb), pairwise_mem h.2 (fun x hx y hy => k x (by simp [hx]) y (by simp [hy]))⟩
def heldSum (vs : List AV) : Nat := (vs.map fun v => v.2.2.length).sum
theorem LedgerAt.used_len {w : World} {B g m mm : Nat} {f n : Int} {us : List Int} {xs : List Acc} (h : LedgerAt w B g m mm f n us xs) : us.length = heldSum (view xs) := by
  have h1 : (xs.flatMap Acc.held).Nodup := nodup_flat (fun a ha => (h.acc a ha).set.rising.nodup) (pairwise_mem h.apart (fun a ha b hb hab z hz hz' => hab (h.law.once a ha b hb z hz hz')))
  have h2 : us.Perm (xs.flatMap Acc.held) := nodup_perm h.pool.set.rising.nodup h1 (fun z => by rw [h.law.held z, List.mem_flatMap])
  rw [h2.length_eq, List.length_flatMap]
  unfold heldSum view
  rw [List.map_map]; rfl
/-- One entry of a list of accounts turns, and no other one. -/
structure StepV (vs : List AV) (i : Nat) (F : AV → AV) (vs' : List AV) : Prop where
  len : vs'.length = vs.length
  names : vs'.map Prod.fst = vs.map Prod.fst
  take : vs'.take i = vs.take i
  get : vs'[i]? = vs[i]?.map F
theorem stepV {vs : List AV} {i : Nat} {F : AV → AV} (hp : vs.Pairwise (fun a b => a.1 ≠ b.1)) (hi : i < vs.length) (hF : ∀ v, (F v).1 = v.1) : StepV vs i F (setV vs vs[i].1 F) := by
  have hg : ∀ j (hj : j < vs.length), j < i → vs[j].1 ≠ vs[i].1 := fun j hj h => (List.pairwise_iff_getElem.1 hp) j i hj hi h
  refine ⟨by simp [setV], ?_, ?_, ?_⟩
  · unfold setV
    rw [List.map_map]
    apply List.map_congr_left
    intro v _
    simp only [Function.comp]
    split
    · exact hF v
    · rfl
  · apply List.ext_getElem?
    intro j
    rw [List.getElem?_take, List.getElem?_take]
    by_cases hj : j < i
    · rw [if_pos hj, if_pos hj]
      unfold setV
      rw [List.getElem?_map, List.getElem?_eq_getElem (by omega)]
      simp [hg j (by omega) hj]
    · rw [if_neg hj, if_neg hj]
  · unfold setV
    rw [List.getElem?_map, List.getElem?_eq_getElem hi]
    simp
theorem findV_at {vs : List AV} {i : Nat} (hp : vs.Pairwise (fun a b => a.1 ≠ b.1)) (hi : i < vs.length) : findV vs vs[i].1 = some vs[i] := by
  unfold findV
  rw [List.find?_eq_some_iff_getElem]
  refine ⟨by simp, i, hi, rfl, fun j hj => ?_⟩
  have := (List.pairwise_iff_getElem.1 hp) j i (by omega) hi hj
  simp [this]
theorem names_pair {vs vs' : List AV} (h : vs'.map Prod.fst = vs.map Prod.fst) (hp : vs.Pairwise (fun a b => a.1 ≠ b.1)) : vs'.Pairwise (fun a b => a.1 ≠ b.1) := by
  have h1 : (vs.map Prod.fst).Pairwise (· ≠ ·) := by rw [List.pairwise_map]; exact hp
  rw [← h, List.pairwise_map] at h1
  exact h1
theorem view_pair {w : World} {B g m mm : Nat} {f n : Int} {us : List Int} {xs : List Acc} (h : LedgerAt w B g m mm f n us xs) : (view xs).Pairwise (fun a b => a.1 ≠ b.1) := by
  unfold view; rw [List.pairwise_map]; exact h.apart
theorem wf_bd {z : Int} (h : (Lit.int .i64 z).wf = true) : -9223372036854775808 ≤ z ∧ z ≤ 9223372036854775807 := by
  have : IntKind.i64.min = -9223372036854775808 ∧ IntKind.i64.max = 9223372036854775807 := by decide
  simpa [Lit.wf, this.1, this.2] using h
theorem sum_take_le : ∀ (l : List Nat) (i : Nat), (l.take i).sum ≤ l.sum
  | [], i => by simp
  | x :: r, 0 => by simp
  | x :: r, i + 1 => by have := sum_take_le r i; simp only [List.take_succ_cons, List.sum_cons]; omega
theorem sum_zero : ∀ {l : List AV}, (∀ v ∈ l, v.2.1 = 0) → (l.map fun v => v.2.1).sum = 0
  | [], _ => rfl
  | x :: r, h => by
    have h1 := h x (by simp)
    have h2 := sum_zero (l := r) (fun v hv => h v (by simp [hv]))
    rw [List.map_cons, List.sum_cons, h1, h2]; rfl
/-- What is to be seen behind a draw of the i-th owner. -/
structure AfterDraw (vs : List AV) (i : Nat) (x : AV) (nm : List UInt8) (k : Int) (O : List Int) (vs' : List AV) : Prop where
  names : vs'.map Prod.fst = vs.map Prod.fst
  left : leftV vs' nm = x.2.1 - k
  held : heldV vs' nm = insAll x.2.2 O
  sum : heldSum (vs'.take (i + 1)) = heldSum (vs.take i) + (insAll x.2.2 O).length
  zero : (∀ v ∈ vs.take i, v.2.1 = 0) → x.2.1 = k → ∀ v ∈ vs'.take (i + 1), v.2.1 = 0
theorem after_draw {vs : List AV} {i : Nat} (hp : vs.Pairwise (fun a b => a.1 ≠ b.1)) (hi : i < vs.length) (k : Int) (O : List Int) : AfterDraw vs i vs[i] vs[i].1 k O (setV vs vs[i].1 (drawV k O)) := by
  have S := stepV (F := drawV k O) hp hi (fun _ => rfl)
  obtain ⟨vs', hvs⟩ : ∃ vs', vs' = setV vs vs[i].1 (drawV k O) := ⟨_, rfl⟩
  rw [← hvs] at S ⊢
  have hi' : i < vs'.length := by rw [S.len]; exact hi
  have hg : vs'[i] = drawV k O vs[i] := by
    have := S.get
    rw [List.getElem?_eq_getElem hi', List.getElem?_eq_getElem hi] at this
    simpa using this
  have hf := findV_at (names_pair S.names hp) hi'
  rw [hg] at hf
  have hf' : findV vs' vs[i].1 = some (drawV k O vs[i]) := hf
  have ht : vs'.take (i + 1) = vs.take i ++ [drawV k O vs[i]] := by rw [List.take_succ_eq_append_getElem hi', S.take, hg]
  refine ⟨S.names, by unfold leftV; rw [hf']; rfl, by unfold heldV; rw [hf']; rfl, by rw [ht]; simp [heldSum, drawV], fun h0 hk v hv => ?_⟩
  rw [ht] at hv
  rcases List.mem_append.1 hv with hv | hv
  · exact h0 v hv
  · simp at hv; subst hv; show vs[i].2.1 - k = 0; omega
theorem names_small {w : World} {B g m mm : Nat} {f n : Int} {us : List Int} {xs : List Acc} (h : LedgerAt w B g m mm f n us xs) : ∀ s ∈ ((view xs).map fun v => (⟨v.1.toArray⟩ : ByteArray)), s.size ≤ maxLen := by
  intro s hs
  unfold view at hs
  rw [List.map_map] at hs
  obtain ⟨a, ha, rfl⟩ := List.mem_map.1 hs
  have := h.law.name a ha
  show a.name.toArray.size ≤ maxLen
  unfold maxLen
  simp; omega
theorem strs_kept {w w' : World} {B g m mm : Nat} {f n : Int} {us : List Int} {xs : List Acc} {A : Option Addr} {p : Nat} {ss : List ByteArray} (hst : Strs w A p ss) (h : LedgerMem w B g m mm f n us xs) (hk : Kept w w' m xs) (hsz : w.heap.size ≤ w'.heap.size) : Strs w' A p ss := by
  refine ⟨⟨fun hne => ?_⟩, hst.len, hst.n_le, hst.size⟩
  obtain ⟨b, off, e, hlt, hc⟩ := hst.sl.at_ hne
  have hsne : ss ≠ [] := fun e => hne (by rw [e]; rfl)
  obtain ⟨s, r, hs⟩ := List.exists_cons_of_ne_nil hsne
  have h0 := hc 0 (.string s) (by rw [hs]; rfl)
  have hblk : w'.heap[b]? = w.heap[b]? := hk b hlt (fun e => by rw [e, h.pool.set.nocell] at h0; cases h0) (fun a ha => ⟨fun e => by
    rw [e, cell_of_row w a.ab _ _ _ _ (h.acc a ha).blk] at h0
    match off, h0 with
    | 0, h0 => cases h0
    | 1, h0 => cases h0
    | k + 2, h0 => simp at h0, fun e => by rw [e, (h.acc a ha).set.nocell] at h0; cases h0⟩)
  exact ⟨b, off, e, Nat.lt_of_lt_of_le hlt hsz, fun j u hu => (World.cell?_of_block (a := ⟨b, off + j, none⟩) hblk).trans (hc j u hu)⟩
theorem LedgerAt.open_pos {w : World} {B g m mm : Nat} {f n : Int} {us : List Int} {xs : List Acc} (h : LedgerAt w B g m mm f n us xs) : 0 ≤ openOf n us xs ∧ openOf n us xs ≤ 4096 ∧ 0 ≤ n - (us.length : Int) ∧ n - (us.length : Int) ≤ 4096 := by
  have := h.few; unfold openOf; omega
/-- The steps as an argument. -/
def OpsV (w : World) (v : Value) (os : List OpV) : Prop := ∃ A n cap, v = .slice A n cap ∧ Ops w A n os
set_option maxRecDepth 100000 in
open Go.ChangeShapes Go.WideShapes Go.ChangeAt in
theorem open_ops {H : Type} {enc : TypeId × Value → H} {w : World} {base b0 : Nat} {spare : Nat → Bool} {held : Bool} {r : Reach} {v : Value} {d : DataW H} {p : List MemPlace}
    (hv : Value.okWide Try.prog w r b0 47 v) (h : DataW.Trod enc Try.prog w base spare held 47 v d p) : ∃ os, OpsV w v os := by
  obtain ⟨A, n, c, rfl⟩ := okWide_slice Try.underlying47 hv
  obtain ⟨os, ho⟩ := ops_of_open h
  exact ⟨os, A, n, c, rfl, ho⟩
set_option maxRecDepth 100000 in
set_option maxHeartbeats 8000000 in
theorem walk_ledgerKeeps (n : Int) (_ : (Lit.int .i64 n).wf = true) {v : Value} (os : List OpV) (w : World) (hv : OpsV w v os) :
    Calls Try.prog 6 #[.int .i64 n, v] w fun e w' => e = .returned (.bool true) ∧ Below w.heap.size w w' := by
  obtain ⟨A, len, cap, rfl, hos⟩ := hv
  have hl := hos.n_le
  unfold maxLen at hl
  have HL := Lib.hid hos.len
  by_cases gn : 0 ≤ n ∧ n ≤ 40
  rotate_left
  · by_cases g1 : n < 0
    · go_enter Try.func6, Try.ntmps6
      go_wp2_with fail
      refine (light_any _ _ cap _ _ hos).mono ?_
      rintro e w1 ⟨b, rfl, _, hb1⟩
      cases b
      all_goals
        go_wp2_with (go_at_call 7; refine (alive_any _).mono ?_; rintro e w2 ⟨rfl, hb2⟩)
        go_ret
        exact ⟨rfl, hb1.trans (hb2.mono hb1.size)⟩
    · have g2 : 40 < n := by omega
      go_enter Try.func6, Try.ntmps6
      go_wp2_with fail
      refine (light_any _ _ cap _ _ hos).mono ?_
      rintro e w1 ⟨b, rfl, _, hb1⟩
      cases b
      all_goals
        go_wp2_with (go_at_call 7; refine (alive_any _).mono ?_; rintro e w2 ⟨rfl, hb2⟩)
        go_ret
        exact ⟨rfl, hb1.trans (hb2.mono hb1.size)⟩
  obtain ⟨g1, g2⟩ := gn
  go_enter Try.func6, Try.ntmps6
  go_wp2_with fail
  refine (light_any _ _ cap _ _ hos).mono ?_
  rintro e w0 ⟨b, rfl, hlight, hb0⟩
  cases b
  · clear hlight
    go_wp2_with (go_at_call 7; refine (alive_any _).mono ?_; rintro e w2 ⟨rfl, hb2⟩)
    go_ret
    exact ⟨rfl, hb0.trans (hb2.mono hb0.size)⟩
  obtain ⟨hn60, hall⟩ := hlight rfl
  have HALL := Lib.hid hall
  clear hlight hall
  go_wp2_with fail
  refine (newL_any _ _ _ (by omega)).mono ?_
  rintro e w1 ⟨g, m, mm, f, k', rfl, h1, hb1, hf, hk⟩
  have hf' : f = 0 := by omega
  have hk' : n = k' := by rw [hk, if_neg (by omega)]; omega
  subst hf' hk'
  clear hf hk
  obtain ⟨B, hB⟩ : ∃ B, B = w0.heap.size := ⟨_, rfl⟩
  rw [← hB] at h1 hb1
  have hB1 : B ≤ w1.heap.size := by have := hb1.size; omega
  have hwB : w.heap.size ≤ B := by rw [hB]; exact hb0.size
  have hos0 := hos.below hb0
  have HBW := Lib.hid hB
  clear hB
  go_wp2_with fail
  go_loopw [6] (fun i wr => ∃ (j : Nat) (us : List Int) (xs : List Acc), j ≤ len ∧ i = .int .i64 j ∧ LedgerAt wr B g m mm 0 n us xs ∧ xs.length ≤ j ∧ Below B w0 wr) (fun i _ => len - (intOf i).toNat)
  case atStart => exact ⟨0, [], [], Nat.zero_le _, rfl, h1, by simp, hb1⟩
  case round =>
    clear h1 hb1 hB1
    obtain ⟨j, us, xs, hj, rfl, hLd, hxl, hbr⟩ := hrel
    have hBr : B ≤ wr.heap.size := by have := hbr.size; have := HBW.out; omega
    have hxf : xs.length < 1000000 := by omega
    by_cases hlt : j < len
    · have K : j < os.length := by rw [HL.out]; exact hlt
      have hobr := hos0.below (by rw [← HBW.out]; exact hbr)
      obtain ⟨b, off, rfl, hb, x0, x1, x2, x3, x4⟩ := hobr.cells K
      have HO := hobr.ok _ (List.getElem_mem K)
      have hol := HALL.out _ (List.getElem_mem K)
      have HWho := Lib.hid HO.who
      have HWhom := Lib.hid HO.whom
      have HKn := Lib.hid HO.n
      have hz := HO.ints
      clear HO hobr
      generalize os[j]'K = o at *
      have g0' : (0 : Int) ≤ (j : Int) := by omega
      have g1' : (j : Int) < (len : Int) := by omega
      have k5 : o.kind = 1 ∨ o.kind = 2 ∨ o.kind = 3 ∨ o.kind = 4 ∨ ((o.kind == 1) = false ∧ (o.kind == 2) = false ∧ (o.kind == 3) = false ∧ (o.kind == 4) = false) := by
        simp only [beq_eq_false_iff_ne]; omega
      rcases k5 with k1 | k1 | k1 | k1 | ⟨k1, k2, k3, k4⟩
      all_goals
        go_wp2_with (first
          | (go_at_call 9; refine (reserve_any o.who o.n _ (hLd.bel ((Below.refl _ wr).alloc (Nat.le_refl _) _)) HWho.out (wf_bd HKn.out) (by simp; omega) hxf).mono ?_; rintro e w2 ⟨ys, rfl, h2', _, hl2', hb2⟩
             have hb2' := ((Below.refl B wr).alloc hBr _).trans hb2
             obtain ⟨us2, ys2, h2, hl2⟩ : ∃ us2 ys2, LedgerAt w2 B g m mm 0 n us2 ys2 ∧ ys2.length ≤ xs.length + 1 := ⟨_, _, h2', by omega⟩
             obtain ⟨p1, p2, p3, p4⟩ := h2.open_pos
             have d1 : decide (openOf n us2 ys2 < 0) = false := decide_eq_false (by omega)
             have d2 : decide (n - (us2.length : Int) < 0) = false := decide_eq_false (by omega)
             clear h2' hl2')
          | (go_at_call 10; refine (draw_any o.who o.n _ (hLd.bel ((Below.refl _ wr).alloc (Nat.le_refl _) _)) HWho.out (wf_bd HKn.out) (by simp; omega)).mono ?_; rintro e w2 ⟨v2, ys, rfl, _, h2', _, hl2', hb2⟩
             have hb2' := ((Below.refl B wr).alloc hBr _).trans hb2
             obtain ⟨us2, ys2, h2, hl2⟩ : ∃ us2 ys2, LedgerAt w2 B g m mm 0 n us2 ys2 ∧ ys2.length ≤ xs.length + 1 := ⟨_, _, h2', by omega⟩
             obtain ⟨p1, p2, p3, p4⟩ := h2.open_pos
             have d1 : decide (openOf n us2 ys2 < 0) = false := decide_eq_false (by omega)
             have d2 : decide (n - (us2.length : Int) < 0) = false := decide_eq_false (by omega)
             clear h2' hl2')
          | (go_at_call 19; refine (return_any o.who o.A o.len o.cap o.zs _ (hLd.bel ((Below.refl _ wr).alloc (Nat.le_refl _) _)) HWho.out (hz.below ((Below.refl _ wr).alloc (Nat.le_refl _) _)) (by omega) (by simp; omega)).mono ?_; rintro e w2 ⟨ys, rfl, h2', _, hl2', hb2⟩
             have hb2' := ((Below.refl B wr).alloc hBr _).trans hb2
             obtain ⟨us2, ys2, h2, hl2⟩ : ∃ us2 ys2, LedgerAt w2 B g m mm 0 n us2 ys2 ∧ ys2.length ≤ xs.length + 1 := ⟨_, _, h2', by omega⟩
             obtain ⟨p1, p2, p3, p4⟩ := h2.open_pos
             have d1 : decide (openOf n us2 ys2 < 0) = false := decide_eq_false (by omega)
             have d2 : decide (n - (us2.length : Int) < 0) = false := decide_eq_false (by omega)
             clear h2' hl2')
          | (go_at_call 18; refine (move_any o.who o.whom o.A o.len o.cap o.zs _ (hLd.bel ((Below.refl _ wr).alloc (Nat.le_refl _) _)) HWho.out HWhom.out (hz.below ((Below.refl _ wr).alloc (Nat.le_refl _) _)) (by omega) (by simp; omega) hxf).mono ?_; rintro e w2 ⟨ys, rfl, h2', _, hl2', hb2⟩
             have hb2' := ((Below.refl B wr).alloc hBr _).trans hb2
             obtain ⟨us2, ys2, h2, hl2⟩ : ∃ us2 ys2, LedgerAt w2 B g m mm 0 n us2 ys2 ∧ ys2.length ≤ xs.length + 1 := ⟨_, _, h2', by omega⟩
             obtain ⟨p1, p2, p3, p4⟩ := h2.open_pos
             have d1 : decide (openOf n us2 ys2 < 0) = false := decide_eq_false (by omega)
             have d2 : decide (n - (us2.length : Int) < 0) = false := decide_eq_false (by omega)
             clear h2' hl2')
          | (go_at_call 11; refine (close_any o.who _ (hLd.bel ((Below.refl _ wr).alloc (Nat.le_refl _) _)) HWho.out (by simp; omega)).mono ?_; rintro e w2 ⟨ys, rfl, h2', _, hl2', hb2⟩
             have hb2' := ((Below.refl B wr).alloc hBr _).trans hb2
             obtain ⟨us2, ys2, h2, hl2⟩ : ∃ us2 ys2, LedgerAt w2 B g m mm 0 n us2 ys2 ∧ ys2.length ≤ xs.length + 1 := ⟨_, _, h2', by omega⟩
             obtain ⟨p1, p2, p3, p4⟩ := h2.open_pos
             have d1 : decide (openOf n us2 ys2 < 0) = false := decide_eq_false (by omega)
             have d2 : decide (n - (us2.length : Int) < 0) = false := decide_eq_false (by omega)
             clear h2' hl2')
          | (go_at_call 14; refine (open_any _ h2).mono ?_; rintro e w3 ⟨rfl, hb3⟩
             have h3 := h2.bel hb3
             have hB2 : B ≤ w2.heap.size := Nat.le_trans hBr (by have := hb2.size; simp at this; omega))
          | (go_at_call 17; refine (free_any g m 0 n _ _ h3.pool).mono ?_; rintro e w4 ⟨rfl, hb4⟩))
        go_roundw
        case rel => exact ⟨j + 1, us2, ys2, by omega, by go_num, (h3.bel hb4), by omega, ((hbr.trans (hb2'.mono (by omega))).trans (hb3.mono hB2)).trans (hb4.mono (Nat.le_trans hB2 hb3.size))⟩
        case measure => simp [intOf]; omega
    · have hd : decide ((j : Int) < (len : Int)) = false := decide_eq_false (by omega)
      have HNS := Lib.hid (names_small hLd)
      clear hos hos0
      go_wp2_with (first
        | (go_at_call 16; refine (owners_any _ hLd hxf).mono ?_; rw [owner_names]; rintro e w8 ⟨v8, rfl, hown8, hb8⟩
           obtain ⟨A8, c8, rfl, hs8⟩ := own_strs hown8 HNS.out (by unfold maxLen; omega)
           have h8 := hLd.bel hb8
           clear hown8))
      have hbel8 : Below B w0 w8 := hbr.trans (hb8.mono hBr)
      have hB8 : B ≤ w8.heap.size := Nat.le_trans hBr hb8.size
      obtain ⟨ns, hns⟩ : ∃ ns, ns = (view xs).map Prod.fst := ⟨_, rfl⟩
      have hss : ((view xs).map fun v => (⟨v.1.toArray⟩ : ByteArray)) = ns.map fun l => ⟨l.toArray⟩ := by rw [hns, List.map_map]; rfl
      rw [hss] at hs8
      obtain ⟨p, hp⟩ : ∃ p, p = xs.length := ⟨_, rfl⟩
      rw [← hp] at hs8 ⊢
      have hnl : ns.length = p := by rw [hns, hp]; simp [view]
      have HNL := Lib.hid hnl
      have HNS2 := Lib.hid hns
      have hp60 : p ≤ 60 := by omega
      clear hss hp hnl hLd hbr hb8 hxl hxf hBr HNS hns
      go_loopw [9, 10] (fun t i wr => ∃ (i' : Nat) (us' : List Int) (xs' : List Acc), i' ≤ p ∧ i = .int .i64 i' ∧ LedgerAt wr B g m mm 0 n us' xs' ∧ (view xs').map Prod.fst = ns ∧ (∀ v ∈ (view xs').take i', v.2.1 = 0) ∧ t = .int .i64 (heldSum ((view xs').take i') : Nat) ∧ Strs wr A8 p (ns.map fun l => ⟨l.toArray⟩) ∧ Below B w0 wr ∧ B ≤ wr.heap.size) (fun _ i _ => p - (intOf i).toNat)
      case atStart => exact ⟨0, us, xs, Nat.zero_le _, rfl, h8, HNS2.out.symm, by simp, rfl, hs8, hbel8, hB8⟩
      case round =>
        clear h8 hs8 hbel8 hB8 HNS2
        obtain ⟨i, us', xs', hi, rfl, hLd, hnm, hz0, rfl, hst, hbr, hBr⟩ := hrel
        have hVl : (view xs').length = p := by rw [← HNL.out, ← hnm]; simp
        have hxl' : xs'.length = p := by rw [← view_len]; exact hVl
        have hus := hLd.used_len
        have hpu := hLd.few
        have hle : heldSum ((view xs').take i) ≤ us'.length := by
          rw [hus]; unfold heldSum
          rw [List.map_take]
          exact sum_take_le _ _
        by_cases hip : i < p
        · have K : i < (view xs').length := by rw [hVl]; exact hip
          have KN : i < (ns.map fun l => (⟨l.toArray⟩ : ByteArray)).length := by simp; rw [HNL.out]; exact hip
          obtain ⟨b, off, rfl, hb, hc⟩ := hst.get KN
          obtain ⟨s, hs⟩ : ∃ s, s = (ns.map fun l => (⟨l.toArray⟩ : ByteArray))[i] := ⟨_, rfl⟩
          rw [← hs] at hc
          have hsz : s.size ≤ maxLen := by rw [hs]; exact hst.size _ (List.getElem_mem KN)
          have hsn : s.data.toList = (view xs')[i].1 := by
            rw [hs]; simp [← hnm]
          have hpair := view_pair hLd
          have hfnd := findV_at hpair K
          have ha : ∃ a ∈ xs', vw a = (view xs')[i] ∧ findA xs' s.data.toList = some a := by
            have ki : i < xs'.length := by rw [hxl']; exact hip
            refine ⟨xs'[i], List.getElem_mem ki, by simp [view], ?_⟩
            have := hLd.mem.find (List.getElem_mem ki)
            rw [hsn]
            simpa [view, vw] using this
          obtain ⟨a, ham, hva, hfa⟩ := ha
          obtain ⟨x, hx⟩ : ∃ x, x = (view xs')[i] := ⟨_, rfl⟩
          have hlft : leftOf (findA xs' s.data.toList) = a.left := by rw [hfa]; rfl
          obtain ⟨q1, q2⟩ := hLd.left_bd ham
          have hE : drawErr xs' s.data.toList a.left = 0 := by unfold drawErr; rw [if_neg (by omega), hfa]; exact if_neg (by omega)
          have hDl : DrawLaw 0 n us' a.left (drawOut 0 n us' xs' s.data.toList a.left) := by
            unfold drawOut
            rw [if_pos hE]
            exact drawLaw g1 hLd.pool.set.rising hLd.pool.ins q1 (by have := left_le_sum hLd.pos ham; omega)
          obtain ⟨O, hO⟩ : ∃ O, O = drawOut 0 n us' xs' s.data.toList a.left := ⟨_, rfl⟩
          rw [← hO] at hDl
          have hAD := after_draw hpair K a.left O
          rw [← hx, show x.1 = s.data.toList from by rw [hsn, hx]] at hAD
          have hx1 : x.2.1 = a.left := by rw [hx, ← hva]; rfl
          have hOlen := hDl.len
          have HLF := Lib.hid hlft
          have HE := Lib.hid hE
          have HO := Lib.hid hO
          have HDL := Lib.hid hDl
          have HAD := Lib.hid hAD
          have HOL := Lib.hid hOlen
          have HX := Lib.hid hx
          have HX1 := Lib.hid hx1
          have HSN := Lib.hid hsn
          have HS := Lib.hid hs
          have HNM := Lib.hid hnm
          have HZ0 := Lib.hid hz0
          have HK := Lib.hid K
          have hOl : O.length ≤ 4096 := by omega
          have hkO : ((O.length : Int) == a.left) = true := beq_iff_eq.2 HOL.out
          have hkO2 : ((O.length : Int) != a.left) = false := by simp [bne, hkO]
          have j0 : (0 : Int) ≤ (i : Int) := by omega
          have j1 : (i : Int) < (p : Int) := by omega
          clear hlft hE hDl hO hAD hOlen hx hx1 hsn hnm hz0 hfnd hva hfa hs
          go_wp2_with (first
            | (go_at_call 12; refine (left_any s _ hLd hsz).mono ?_; rw [HLF.out]; rintro e w10 ⟨rfl, rfl⟩
               have tok1 : True := trivial)
            | (go_at_call 10; refine (draw_kept s a.left _ hLd hsz (by omega) hBr).mono ?_; rintro e w11 ⟨⟨v11, ys, rfl, hown11, hLd2, hv11, hl11, hb11⟩, hkp⟩
               rw [HE.out]
               rw [← HO.out] at hown11 hLd2 hv11
               rw [HE.out, if_pos rfl] at hv11
               have hAD2 := HAD.out
               rw [← hv11] at hAD2
               have HAD2 := Lib.hid hAD2
               have HL2 := Lib.hid (show leftV (view ys) s.data.toList = 0 from by rw [hAD2.left, HX1.out]; omega)
               have HH2 := Lib.hid hAD2.held
               obtain ⟨A11, c11, rfl, hi11⟩ := own_ints' hown11 (fun z hz => by have := HDL.out.fresh z hz; exact wf_small (by omega)) (by unfold maxLen; omega)
               have hsz11 : wr.heap.size ≤ w11.heap.size := hb11.size
               have hst2 := strs_kept hst hLd.mem hkp hsz11
               have hB11 : B ≤ w11.heap.size := Nat.le_trans hBr hsz11
               obtain ⟨b2, off2, e2, hlt2, hcc2⟩ := hst2.get (j := i) (by simp; rw [HNL.out]; exact hip)
               rw [← HS.out] at hcc2
               obtain ⟨rfl, rfl⟩ : b = b2 ∧ off = off2 := by injection e2 with e2; injection e2 with e3 e4; exact ⟨e3, e4⟩
               have hused := hLd2.used_len
               have hfew2 := hLd2.few
               obtain ⟨H, hH⟩ : ∃ H, H = insAll x.2.2 O := ⟨_, rfl⟩
               have hsum2 := hAD2.sum
               rw [← hH] at hsum2
               have hbd : heldSum ((view xs').take i) + H.length ≤ 40 := by
                 rw [← hsum2]
                 have : heldSum ((view ys).take (i + 1)) ≤ heldSum (view ys) := by unfold heldSum; rw [List.map_take]; exact sum_take_le _ _
                 omega
               have HHE := Lib.hid hH
               have HSUM2 := Lib.hid hsum2
               clear tok1 hown11 hv11 hAD2 hi11 hused hfew2 hsum2 hH e2)
            | (go_at_call 12; refine (left_any s _ hLd2 hsz).mono ?_; rw [left_view, HL2.out]; rintro e w12 ⟨rfl, rfl⟩)
            | (go_at_call 13; refine (holds_any s _ hLd2 hsz).mono ?_; rw [held_view, HH2.out, ← HHE.out]; rintro e w13 ⟨v13, rfl, hown13, hb13⟩
               obtain ⟨A13, c13, rfl, hi13⟩ := own_ints' hown13 (fun z hz => by
                 rw [HHE.out, ← HH2.out, ← held_view] at hz
                 cases hff : findA ys s.data.toList with
                 | none => rw [hff] at hz; simp [heldOf] at hz
                 | some y => rw [hff] at hz; have := hLd2.pool.ins z (hLd2.sub (findA_some hff).1 z hz); exact wf_small (by omega)) (by unfold maxLen; omega)
               have hLd3 := hLd2.bel hb13
               have hst3 := hst2.below hb13
               clear hown13 hi13))
          go_roundw
          case rel => exact ⟨i + 1, _, ys, by omega, by go_num, hLd3, by rw [HAD2.out.names]; exact HNM.out, HAD2.out.zero HZ0.out HX1.out, by rw [HSUM2.out]; go_num, hst3, (hbr.trans hb11).trans (hb13.mono hB11), Nat.le_trans hB11 hb13.size⟩
          case measure => simp [intOf]; omega
        · have hie : i = p := by omega
          have htk : (view xs').take i = view xs' := List.take_of_length_le (by omega)
          have hd2 : decide ((i : Int) < (p : Int)) = false := decide_eq_false (by omega)
          have HTOT := Lib.hid (show heldSum ((view xs').take i) = us'.length from by rw [htk, hus])
          have HSUM := Lib.hid (show openOf n us' xs' = n - us'.length from by
            unfold openOf
            rw [sumV]
            have : ((view xs').map fun v => v.2.1).sum = 0 := sum_zero (fun v hv => hz0 v (by rw [htk]; exact hv))
            omega)
          rw [HTOT.out]
          have hul : us'.length ≤ 40 := by omega
          clear hle hus hie htk hVl hnm hz0 hst
          go_wp2_with fail
          go_region_held3 (fun w' => LedgerAt w' B g m mm 0 n us' xs' ∧ Below B w0 w' ∧ B ≤ w'.heap.size)
            (first
              | assumption
              | exact ⟨hLd.bel ((Below.refl wr.heap.size wr).drew), hbr.drew, hBr⟩
              | (go_split_ands; exact ⟨LedgerAt.bel (by assumption) hbq, Below.trans (by assumption) (hbq.mono (by assumption)), Nat.le_trans (by assumption) hbq.size⟩))
            (first
              | (go_at_call 7; refine (alive_any _).mono ?_; rintro e wq ⟨rfl, hbq⟩)
              | (go_at_call 21; go_split_ands; refine (used_any g m 0 n us' _ (LedgerAt.pool (B := B) (mm := mm) (xs := xs') (by assumption))).mono ?_; rintro e wq ⟨v21, rfl, hown21, hbq⟩
                 obtain ⟨A21, c21, rfl, hi21⟩ := own_ints' hown21 (fun z hz => by have := hLd.pool.ins z hz; exact wf_small (by omega)) (by unfold maxLen; omega)
                 clear hi21 hown21)
              | (go_at_call 14; go_split_ands; refine (open_any _ (by assumption)).mono ?_; rw [HSUM.out]; rintro e wq ⟨rfl, hbq⟩)
              | (go_at_call 17; go_split_ands; refine (free_any g m 0 n us' _ (LedgerAt.pool (B := B) (mm := mm) (xs := xs') (by assumption))).mono ?_; rintro e wq ⟨rfl, hbq⟩))
          go_split_ands
          have hfin : Below B w0 wq := by assumption
          go_wp2_with fail
          go_ret
          exact ⟨rfl, hb0.trans (hfin.mono hwB)⟩
end Go.Proofs.Ytopjmjobpkpmlaa
