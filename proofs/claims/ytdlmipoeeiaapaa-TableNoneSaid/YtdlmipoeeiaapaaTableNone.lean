/-
  TableNone: its walk.
-/
import Derived.Test.YtdlmipoeeiaapaaTableNil
import Derived.Test.YtdlmipoeeiaapaaAlive10
import Derived.Test.YtdlmipoeeiaapaaRecIn
import Derived.OpenShut
namespace Go.Proofs.Ytdlmipoeeiaapaa
open Go.ChangeShapes Go.WideShapes Go.ChangeAt Go.RowKit Go.Maps

/-- An argument that is a record. -/
structure RcArg (v : Value) (r : Rc) : Prop where
  val : v = r.val
  nm : r.nm.size ≤ maxLen
set_option maxRecDepth 100000 in
theorem rc_open {H : Type} {enc : TypeId × Value → H} {w : World} {base : Nat} {spare : Nat → Bool} {held : Bool} {r : Reach} {b0 : Nat} {v : Value} {d : DataW H} {p : List MemPlace} (hv : Value.okWide Try.prog w r b0 34 v) (h : DataW.Trod enc Try.prog w base spare held 34 v d p) : ∃ r : Rc, RcArg v r := by
  obtain ⟨cs, rfl, _⟩ := okWide_struct Try.underlying34 hv
  obtain ⟨fuel, hf⟩ := h
  obtain ⟨r, e, h1, _⟩ := rec_of_trod hf
  obtain ⟨l⟩ := cs
  have e' : l = r.cells := by simpa [Value.cells] using e
  subst e'
  exact ⟨r, rfl, h1⟩
/-- What lies in memory while the calls of none go on. -/
structure NnS (w0 w' : World) (b : Nat) (r : Rc) : Prop where
  zt : ZeroT w' (b + 1)
  x : RcCells w' b 0 r
  bel : Below w0.heap.size w0 w'
  sz : b + 2 ≤ w'.heap.size
theorem NnS.below {w0 w w' : World} {b : Nat} {r : Rc} (h : NnS w0 w b r) (hb : Below w.heap.size w w') : NnS w0 w' b r :=
  ⟨h.zt.below hb, h.x.keep (grown_of_below hb none) (by simp), h.bel.trans (hb.mono h.bel.size), Nat.le_trans h.sz hb.size⟩
theorem NnS.drew {w0 w : World} {b : Nat} {r : Rc} (h : NnS w0 w b r) : NnS w0 w.drew b r := h.below ((Below.refl _ _).drew)
theorem NnS.alloc {w0 w : World} {b : Nat} {r : Rc} (h : NnS w0 w b r) (o : Obj) : NnS w0 (w.alloc o) b r := h.below ((Below.refl _ _).alloc (Nat.le_refl _) o)
theorem NnS.full {w0 w' : World} {b : Nat} {r : Rc} (h : NnS w0 w' b r) : NnS w0 w' b r ∧ w'.cell? ⟨b, 0, none⟩ = some (.string r.nm) ∧ w'.cell? ⟨b, 1, none⟩ = some (.int .i64 r.st) ∧ w'.cell? ⟨b, 2, none⟩ = some (.int .i64 r.ag.c) ∧ w'.cell? ⟨b, 3, none⟩ = some (.int .i64 r.ag.hi) ∧ w'.cell? ⟨b, 4, none⟩ = some (.int .u64 r.ag.lo) ∧ w'.cell? ⟨b, 5, none⟩ = some (.int .i64 r.ag.mn) ∧ w'.cell? ⟨b, 6, none⟩ = some (.int .i64 r.ag.mx) :=
  ⟨h, h.x.c0, by have := h.x.c1; simpa using this, by have := h.x.c2; simpa using this, by have := h.x.c3; simpa using this, by have := h.x.c4; simpa using this, by have := h.x.c5; simpa using this, by have := h.x.c6; simpa using this⟩
/-- What follows is proved once, whatever two numbers and a world it starts from. -/
theorem share {S : World → Prop} {T : Nat → Nat → World → Prop} {G : Prop} (tail : ∀ a c W, S W → T a c W) (main : (∀ a c W, S W → T a c W) → G) : G := main tail
set_option maxRecDepth 100000 in
set_option maxHeartbeats 40000000 in
theorem walk_tableNone {w : World} (v : Value) (r : Rc) (hr : RcArg v r) (n : Int) (hn : (Lit.int .i64 n).wf = true) :
    Calls Try.prog 8 #[v, .int .i64 n] w fun e w' => e = .returned (.bool true) ∧ Below w.heap.size w w' := by
  obtain ⟨rfl, hnm⟩ := hr
  have hbd := bd_i64 hn
  unfold maxLen at hnm
  have hB0 := (Below.refl w.heap.size w).alloc (Nat.le_refl _) (.cells #[.string r.nm, .int .i64 r.st, .int .i64 r.ag.c, .int .i64 r.ag.hi, .int .u64 r.ag.lo, .int .i64 r.ag.mn, .int .i64 r.ag.mx] 34)
  have X := RcCells.new w r
  have HW := Lib.hid (show (w.alloc (.cells #[.string r.nm, .int .i64 r.st, .int .i64 r.ag.c, .int .i64 r.ag.hi, .int .u64 r.ag.lo, .int .i64 r.ag.mn, .int .i64 r.ag.mx] 34)).heap.size = w.heap.size + 1 from by simp)
  by_cases h60 : 60 < r.nm.size
  · go_enter Try.func8, Try.ntmps8
    go_wp2_with fail
    refine (alive_any _).mono ?_
    rintro e w2 ⟨rfl, hb2⟩
    go_wp2_with fail
    go_ret
    exact ⟨rfl, hB0.trans (hb2.mono hB0.size)⟩
  · have hd60 : decide (60 < (r.nm.size : Int)) = false := decide_eq_false (by omega)
    have hB1 := hB0.alloc hB0.size (.cells #[.int .i64 0, .map none] 55)
    have Z := ZeroT.mk' (w.alloc (.cells #[.string r.nm, .int .i64 r.st, .int .i64 r.ag.c, .int .i64 r.ag.hi, .int .u64 r.ag.lo, .int .i64 r.ag.mn, .int .i64 r.ag.mx] 34))
    rw [HW.out] at Z
    have X1 := X.keep (World.grownBy_alloc _ (.cells #[.int .i64 0, .map none] 55) none) (by simp)
    have HS := Lib.hid (show ((w.alloc (.cells #[.string r.nm, .int .i64 r.st, .int .i64 r.ag.c, .int .i64 r.ag.hi, .int .u64 r.ag.lo, .int .i64 r.ag.mn, .int .i64 r.ag.mx] 34)).alloc (.cells #[.int .i64 0, .map none] 55)).heap.size = w.heap.size + 2 from by simp)
    go_enter Try.func8, Try.ntmps8
    go_wp2_with fail
    generalize (w.alloc (.cells #[.string r.nm, .int .i64 r.st, .int .i64 r.ag.c, .int .i64 r.ag.hi, .int .u64 r.ag.lo, .int .i64 r.ag.mn, .int .i64 r.ag.mx] 34)).alloc (.cells #[.int .i64 0, .map none] 55) = W at *
    clear X hB0 HW
    refine (findT_no (noT_nil _) _ _).mono ?_
    rintro e w2 ⟨rfl, hb2⟩
    have hw2 : w.heap.size + 2 ≤ w2.heap.size := by rw [← HS.out]; exact hb2.size
    go_wp2_with fail
    have S0 : NnS w (w2.alloc (.cells #[.int .i64 0, .int .i64 0, .int .u64 0, .int .i64 0, .int .i64 0] 32)) w.heap.size r :=
      NnS.alloc ⟨Z.below hb2, X1.keep (grown_of_below hb2 none) (by simp), hB1.trans (hb2.mono hB1.size), hw2⟩ _
    generalize w2.alloc (.cells #[.int .i64 0, .int .i64 0, .int .u64 0, .int .i64 0, .int .i64 0] 32) = W2 at *
    clear X1 hB1 hb2 HS Z
    have hw0 : w.heap.size = w.heap.size := rfl
    generalize hb0 : w.heap.size = b0 at *
    clear hw0
    have S1 := S0.drew
    dsimp only [List.append]
    refine wp_region_held_drew (S := (fun w' => NnS w w' b0 r ∧ w'.cell? ⟨b0, 0, none⟩ = some (.string r.nm) ∧ w'.cell? ⟨b0, 1, none⟩ = some (.int .i64 r.st) ∧ w'.cell? ⟨b0, 2, none⟩ = some (.int .i64 r.ag.c) ∧ w'.cell? ⟨b0, 3, none⟩ = some (.int .i64 r.ag.hi) ∧ w'.cell? ⟨b0, 4, none⟩ = some (.int .u64 r.ag.lo) ∧ w'.cell? ⟨b0, 5, none⟩ = some (.int .i64 r.ag.mn) ∧ w'.cell? ⟨b0, 6, none⟩ = some (.int .i64 r.ag.mx))) (by kernel_rfl) S1.full (fun hHeld => ?_)
    clear S1 S0
    refine wpAnyH_ready (rs := [0]) (by kernel_rfl) (by simp) (AllReadyH.cons (o := _) rfl (fun K hK => ?_) AllReadyH.nil)
    go_simp
    refine (alive_any _).mono ?_; rintro e wq ⟨rfl, hbn⟩
    (try go_wp2_with fail)
    refine hK.out _ _ (NnS.full (NnS.below hHeld.1 hbn)) (fun hHeld => ?_)
    clear hK K
    clear hbn
    (try simp only [List.getElem_toArray, List.getElem_cons_succ, List.getElem_cons_zero, Act.put, List.setIfInBounds_toArray, List.set_cons_zero, List.set_cons_succ])
    refine wpAnyH_take (i := 1) (oi := _) (v := ?_) rfl (by kernel_rfl) (by kernel_rfl) (by kernel_rfl) (fun _ _ _ h => h) (Or.inl ⟨by rfl, ?y1⟩) (by assumption) ?_
    case y1 => intro w hSw; (try dsimp only at hSw); go_split_ands; (go_simp <;> with_reducible rfl)
    (try simp only [List.getElem_toArray, List.getElem_cons_succ, List.getElem_cons_zero, Act.put, List.setIfInBounds_toArray, List.set_cons_zero, List.set_cons_succ])
    refine wpAnyH_take (i := 2) (oi := _) (v := ?_) rfl (by kernel_rfl) (by kernel_rfl) (by kernel_rfl) (fun _ _ _ h => h) (Or.inl ⟨by rfl, ?y2⟩) (by assumption) ?_
    case y2 => intro w hSw; (try dsimp only at hSw); go_split_ands; (go_simp <;> with_reducible rfl)
    (try simp only [List.getElem_toArray, List.getElem_cons_succ, List.getElem_cons_zero, Act.put, List.setIfInBounds_toArray, List.set_cons_zero, List.set_cons_succ])
    refine wpAnyH_take (i := 3) (oi := _) (v := ?_) rfl (by kernel_rfl) (by kernel_rfl) (by kernel_rfl) (fun _ _ _ h => h) (Or.inl ⟨by rfl, ?y3⟩) (by assumption) ?_
    case y3 => intro w hSw; (try dsimp only at hSw); go_split_ands; (go_simp <;> with_reducible rfl)
    (try simp only [List.getElem_toArray, List.getElem_cons_succ, List.getElem_cons_zero, Act.put, List.setIfInBounds_toArray, List.set_cons_zero, List.set_cons_succ])
    refine wpAnyH_take (i := 6) (oi := _) (v := ?_) rfl (by kernel_rfl) (by kernel_rfl) (by kernel_rfl) (fun _ _ _ h => h) (Or.inl ⟨by rfl, ?y6⟩) (by assumption) ?_
    case y6 => intro w hSw; (try dsimp only at hSw); go_split_ands; (go_simp <;> with_reducible rfl)
    (try simp only [List.getElem_toArray, List.getElem_cons_succ, List.getElem_cons_zero, Act.put, List.setIfInBounds_toArray, List.set_cons_zero, List.set_cons_succ])
    refine wpAnyH_take (i := 7) (oi := _) (v := ?_) rfl (by kernel_rfl) (by kernel_rfl) (by kernel_rfl) (fun _ _ _ h => h) (Or.inl ⟨by rfl, ?y7⟩) (by assumption) ?_
    case y7 => intro w hSw; (try dsimp only at hSw); go_split_ands; (go_simp <;> with_reducible rfl)
    (try simp only [List.getElem_toArray, List.getElem_cons_succ, List.getElem_cons_zero, Act.put, List.setIfInBounds_toArray, List.set_cons_zero, List.set_cons_succ])
    refine wpAnyH_take (i := 10) (oi := _) (v := ?_) rfl (by kernel_rfl) (by kernel_rfl) (by kernel_rfl) (fun _ _ _ h => h) (Or.inl ⟨by rfl, ?y10⟩) (by assumption) ?_
    case y10 => intro w hSw; (try dsimp only at hSw); go_split_ands; (go_simp <;> with_reducible rfl)
    (try simp only [List.getElem_toArray, List.getElem_cons_succ, List.getElem_cons_zero, Act.put, List.setIfInBounds_toArray, List.set_cons_zero, List.set_cons_succ])
    refine wpAnyH_take (i := 11) (oi := _) (v := ?_) rfl (by kernel_rfl) (by kernel_rfl) (by kernel_rfl) (fun _ _ _ h => h) (Or.inl ⟨by rfl, ?y11⟩) (by assumption) ?_
    case y11 => intro w hSw; (try dsimp only at hSw); go_split_ands; (go_simp <;> with_reducible rfl)
    (try simp only [List.getElem_toArray, List.getElem_cons_succ, List.getElem_cons_zero, Act.put, List.setIfInBounds_toArray, List.set_cons_zero, List.set_cons_succ])
    refine wpAnyH_take (i := 14) (oi := _) (v := ?_) rfl (by kernel_rfl) (by kernel_rfl) (by kernel_rfl) (fun _ _ _ h => h) (Or.inl ⟨by rfl, ?y14⟩) (by assumption) ?_
    case y14 => intro w hSw; (try dsimp only at hSw); go_split_ands; (go_simp <;> with_reducible rfl)
    (try simp only [List.getElem_toArray, List.getElem_cons_succ, List.getElem_cons_zero, Act.put, List.setIfInBounds_toArray, List.set_cons_zero, List.set_cons_succ])
    refine wpAnyH_take (i := 15) (oi := _) (v := ?_) rfl (by kernel_rfl) (by kernel_rfl) (by kernel_rfl) (fun _ _ _ h => h) (Or.inl ⟨by rfl, ?y15⟩) (by assumption) ?_
    case y15 => intro w hSw; (try dsimp only at hSw); go_split_ands; (go_simp <;> with_reducible rfl)
    (try simp only [List.getElem_toArray, List.getElem_cons_succ, List.getElem_cons_zero, Act.put, List.setIfInBounds_toArray, List.set_cons_zero, List.set_cons_succ])
    refine wpAnyH_take (i := 18) (oi := _) (v := ?_) rfl (by kernel_rfl) (by kernel_rfl) (by kernel_rfl) (fun _ _ _ h => h) (Or.inl ⟨by rfl, ?y18⟩) (by assumption) ?_
    case y18 => intro w hSw; (try dsimp only at hSw); go_split_ands; (go_simp <;> with_reducible rfl)
    (try simp only [List.getElem_toArray, List.getElem_cons_succ, List.getElem_cons_zero, Act.put, List.setIfInBounds_toArray, List.set_cons_zero, List.set_cons_succ])
    refine wpAnyH_take (i := 21) (oi := _) (v := ?_) rfl (by kernel_rfl) (by kernel_rfl) (by kernel_rfl) (fun _ _ _ h => h) (Or.inl ⟨by rfl, ?y21⟩) (by assumption) ?_
    case y21 => intro w hSw; (try dsimp only at hSw); go_split_ands; (go_simp <;> with_reducible rfl)
    (try simp only [List.getElem_toArray, List.getElem_cons_succ, List.getElem_cons_zero, Act.put, List.setIfInBounds_toArray, List.set_cons_zero, List.set_cons_succ])
    refine wpAnyH_take (i := 22) (oi := _) (v := ?_) rfl (by kernel_rfl) (by kernel_rfl) (by kernel_rfl) (fun _ _ _ h => h) (Or.inl ⟨by rfl, ?y22⟩) (by assumption) ?_
    case y22 => intro w hSw; (try dsimp only at hSw); go_split_ands; (go_simp <;> with_reducible rfl)
    (try simp only [List.getElem_toArray, List.getElem_cons_succ, List.getElem_cons_zero, Act.put, List.setIfInBounds_toArray, List.set_cons_zero, List.set_cons_succ])
    refine wpAnyH_take (i := 26) (oi := _) (v := ?_) rfl (by kernel_rfl) (by kernel_rfl) (by kernel_rfl) (fun _ _ _ h => h) (Or.inl ⟨by rfl, ?y26⟩) (by assumption) ?_
    case y26 => intro w hSw; (try dsimp only at hSw); go_split_ands; (go_simp <;> with_reducible rfl)
    (try simp only [List.getElem_toArray, List.getElem_cons_succ, List.getElem_cons_zero, Act.put, List.setIfInBounds_toArray, List.set_cons_zero, List.set_cons_succ])
    apply share (S := (fun w' => NnS w w' b0 r ∧ w'.cell? ⟨b0, 0, none⟩ = some (.string r.nm) ∧ w'.cell? ⟨b0, 1, none⟩ = some (.int .i64 r.st) ∧ w'.cell? ⟨b0, 2, none⟩ = some (.int .i64 r.ag.c) ∧ w'.cell? ⟨b0, 3, none⟩ = some (.int .i64 r.ag.hi) ∧ w'.cell? ⟨b0, 4, none⟩ = some (.int .u64 r.ag.lo) ∧ w'.cell? ⟨b0, 5, none⟩ = some (.int .i64 r.ag.mn) ∧ w'.cell? ⟨b0, 6, none⟩ = some (.int .i64 r.ag.mx)))
    case main =>
      intro tail
      refine wpAnyH_ready (rs := [4, 23]) (by kernel_rfl) (by simp) (AllReadyH.cons (o := _) rfl (fun K hK => ?_) (AllReadyH.cons (o := _) rfl (fun K hK => ?_) AllReadyH.nil))
      rotate_left
      · -- the second list is made first
        go_simp
        refine hK.out _ _ (NnS.full (NnS.alloc hHeld.1 _)) (fun hHeld => ?_)
        clear hK K
        generalize (World.heap wq).size = cc
        generalize World.alloc wq _ = wn at hHeld ⊢
        (try simp only [List.getElem_toArray, List.getElem_cons_succ, List.getElem_cons_zero, Act.put, List.setIfInBounds_toArray, List.set_cons_zero, List.set_cons_succ])
        refine wpAnyH_ready (rs := [4]) (by kernel_rfl) (by simp) (AllReadyH.cons (o := _) rfl (fun K hK => ?_) AllReadyH.nil)
        go_simp
        refine hK.out _ _ (NnS.full (NnS.alloc hHeld.1 _)) (fun hHeld => ?_)
        clear hK K
        generalize (World.heap wn).size = aa
        generalize World.alloc wn _ = wn at hHeld ⊢
        (try simp only [List.getElem_toArray, List.getElem_cons_succ, List.getElem_cons_zero, Act.put, List.setIfInBounds_toArray, List.set_cons_zero, List.set_cons_succ])
        refine wpAnyH_ready (rs := [5]) (by kernel_rfl) (by simp) (AllReadyH.cons (o := _) rfl (fun K hK => ?_) AllReadyH.nil)
        go_simp
        (with_reducible refine (addT_no (noT_nil _) _).mono ?_); rintro e wq ⟨rfl, rfl⟩
        (try go_wp2_with fail)
        refine hK.out _ _ (hHeld) (fun hHeld => ?_)
        clear hK K
        (try simp only [List.getElem_toArray, List.getElem_cons_succ, List.getElem_cons_zero, Act.put, List.setIfInBounds_toArray, List.set_cons_zero, List.set_cons_succ])
        refine wpAnyH_ready (rs := [8]) (by kernel_rfl) (by simp) (AllReadyH.cons (o := _) rfl (fun K hK => ?_) AllReadyH.nil)
        go_simp
        refine (DropT_no (noT_nil _) _).mono ?_; rintro e wq ⟨rfl, hbn⟩
        (try go_wp2_with fail)
        refine hK.out _ _ (NnS.full (NnS.below hHeld.1 hbn)) (fun hHeld => ?_)
        clear hK K
        clear hbn
        (try simp only [List.getElem_toArray, List.getElem_cons_succ, List.getElem_cons_zero, Act.put, List.setIfInBounds_toArray, List.set_cons_zero, List.set_cons_succ])
        refine wpAnyH_take (i := 9) (oi := _) (v := .int .i64 0) rfl (by kernel_rfl) (by kernel_rfl) (by kernel_rfl) (fun _ _ _ h => h) (Or.inl ⟨by rfl, ?y9⟩) (by assumption) ?_
        case y9 => intro w hSw; (try dsimp only at hSw); go_split_ands; (go_simp <;> (first | (with_reducible rfl) | rfl | simp))
        (try simp only [List.getElem_toArray, List.getElem_cons_succ, List.getElem_cons_zero, Act.put, List.setIfInBounds_toArray, List.set_cons_zero, List.set_cons_succ])
        refine wpAnyH_ready (rs := [12]) (by kernel_rfl) (by simp) (AllReadyH.cons (o := _) rfl (fun K hK => ?_) AllReadyH.nil)
        go_simp
        refine (ClearT_no (noT_nil _) _ _).mono ?_; rintro e wq ⟨rfl, hbn⟩
        (try go_wp2_with fail)
        refine hK.out _ _ (NnS.full (NnS.below hHeld.1 hbn)) (fun hHeld => ?_)
        clear hK K
        clear hbn
        (try simp only [List.getElem_toArray, List.getElem_cons_succ, List.getElem_cons_zero, Act.put, List.setIfInBounds_toArray, List.set_cons_zero, List.set_cons_succ])
        refine wpAnyH_take (i := 13) (oi := _) (v := .int .i64 0) rfl (by kernel_rfl) (by kernel_rfl) (by kernel_rfl) (fun _ _ _ h => h) (Or.inl ⟨by rfl, ?y13⟩) (by assumption) ?_
        case y13 => intro w hSw; (try dsimp only at hSw); go_split_ands; (go_simp <;> (first | (with_reducible rfl) | rfl | simp))
        (try simp only [List.getElem_toArray, List.getElem_cons_succ, List.getElem_cons_zero, Act.put, List.setIfInBounds_toArray, List.set_cons_zero, List.set_cons_succ])
        refine wpAnyH_ready (rs := [16]) (by kernel_rfl) (by simp) (AllReadyH.cons (o := _) rfl (fun K hK => ?_) AllReadyH.nil)
        go_simp
        refine (needT_no (noT_nil _) _ hbd).mono ?_; rintro e wq ⟨rfl, hbn⟩
        (try go_wp2_with fail)
        refine hK.out _ _ (NnS.full (NnS.below hHeld.1 hbn)) (fun hHeld => ?_)
        clear hK K
        clear hbn
        (try simp only [List.getElem_toArray, List.getElem_cons_succ, List.getElem_cons_zero, Act.put, List.setIfInBounds_toArray, List.set_cons_zero, List.set_cons_succ])
        refine wpAnyH_take (i := 17) (oi := _) (v := .int .i64 0) rfl (by kernel_rfl) (by kernel_rfl) (by kernel_rfl) (fun _ _ _ h => h) (Or.inl ⟨by rfl, ?y17⟩) (by assumption) ?_
        case y17 => intro w hSw; (try dsimp only at hSw); go_split_ands; (go_simp <;> (first | (with_reducible rfl) | rfl | simp))
        (try simp only [List.getElem_toArray, List.getElem_cons_succ, List.getElem_cons_zero, Act.put, List.setIfInBounds_toArray, List.set_cons_zero, List.set_cons_succ])
        refine wpAnyH_ready (rs := [19]) (by kernel_rfl) (by simp) (AllReadyH.cons (o := _) rfl (fun K hK => ?_) AllReadyH.nil)
        go_simp
        (with_reducible refine (lenT_nil _).mono ?_); rintro e wq ⟨rfl, rfl⟩
        (try go_wp2_with fail)
        refine hK.out _ _ (hHeld) (fun hHeld => ?_)
        clear hK K
        (try simp only [List.getElem_toArray, List.getElem_cons_succ, List.getElem_cons_zero, Act.put, List.setIfInBounds_toArray, List.set_cons_zero, List.set_cons_succ])
        refine wpAnyH_take (i := 20) (oi := _) (v := .int .i64 0) rfl (by kernel_rfl) (by kernel_rfl) (by kernel_rfl) (fun _ _ _ h => h) (Or.inl ⟨by rfl, ?y20⟩) (by assumption) ?_
        case y20 => intro w hSw; (try dsimp only at hSw); go_split_ands; (go_simp <;> (first | (with_reducible rfl) | rfl | simp))
        (try simp only [List.getElem_toArray, List.getElem_cons_succ, List.getElem_cons_zero, Act.put, List.setIfInBounds_toArray, List.set_cons_zero, List.set_cons_succ])
        exact tail aa cc _ hHeld
      go_simp
      refine hK.out _ _ (NnS.full (NnS.alloc hHeld.1 _)) (fun hHeld => ?_)
      clear hK K
      generalize (World.heap wq).size = aa
      generalize World.alloc wq _ = wn at hHeld ⊢
      (try simp only [List.getElem_toArray, List.getElem_cons_succ, List.getElem_cons_zero, Act.put, List.setIfInBounds_toArray, List.set_cons_zero, List.set_cons_succ])
      refine wpAnyH_ready (rs := [5, 23]) (by kernel_rfl) (by simp) (AllReadyH.cons (o := _) rfl (fun K hK => ?_) (AllReadyH.cons (o := _) rfl (fun K hK => ?_) AllReadyH.nil))
      rotate_left
      · -- the second list is made first
        go_simp
        refine hK.out _ _ (NnS.full (NnS.alloc hHeld.1 _)) (fun hHeld => ?_)
        clear hK K
        generalize (World.heap wn).size = cc
        generalize World.alloc wn _ = wn at hHeld ⊢
        (try simp only [List.getElem_toArray, List.getElem_cons_succ, List.getElem_cons_zero, Act.put, List.setIfInBounds_toArray, List.set_cons_zero, List.set_cons_succ])
        refine wpAnyH_ready (rs := [5]) (by kernel_rfl) (by simp) (AllReadyH.cons (o := _) rfl (fun K hK => ?_) AllReadyH.nil)
        go_simp
        (with_reducible refine (addT_no (noT_nil _) _).mono ?_); rintro e wq ⟨rfl, rfl⟩
        (try go_wp2_with fail)
        refine hK.out _ _ (hHeld) (fun hHeld => ?_)
        clear hK K
        (try simp only [List.getElem_toArray, List.getElem_cons_succ, List.getElem_cons_zero, Act.put, List.setIfInBounds_toArray, List.set_cons_zero, List.set_cons_succ])
        refine wpAnyH_ready (rs := [8]) (by kernel_rfl) (by simp) (AllReadyH.cons (o := _) rfl (fun K hK => ?_) AllReadyH.nil)
        go_simp
        refine (DropT_no (noT_nil _) _).mono ?_; rintro e wq ⟨rfl, hbn⟩
        (try go_wp2_with fail)
        refine hK.out _ _ (NnS.full (NnS.below hHeld.1 hbn)) (fun hHeld => ?_)
        clear hK K
        clear hbn
        (try simp only [List.getElem_toArray, List.getElem_cons_succ, List.getElem_cons_zero, Act.put, List.setIfInBounds_toArray, List.set_cons_zero, List.set_cons_succ])
        refine wpAnyH_take (i := 9) (oi := _) (v := .int .i64 0) rfl (by kernel_rfl) (by kernel_rfl) (by kernel_rfl) (fun _ _ _ h => h) (Or.inl ⟨by rfl, ?y9⟩) (by assumption) ?_
        case y9 => intro w hSw; (try dsimp only at hSw); go_split_ands; (go_simp <;> (first | (with_reducible rfl) | rfl | simp))
        (try simp only [List.getElem_toArray, List.getElem_cons_succ, List.getElem_cons_zero, Act.put, List.setIfInBounds_toArray, List.set_cons_zero, List.set_cons_succ])
        refine wpAnyH_ready (rs := [12]) (by kernel_rfl) (by simp) (AllReadyH.cons (o := _) rfl (fun K hK => ?_) AllReadyH.nil)
        go_simp
        refine (ClearT_no (noT_nil _) _ _).mono ?_; rintro e wq ⟨rfl, hbn⟩
        (try go_wp2_with fail)
        refine hK.out _ _ (NnS.full (NnS.below hHeld.1 hbn)) (fun hHeld => ?_)
        clear hK K
        clear hbn
        (try simp only [List.getElem_toArray, List.getElem_cons_succ, List.getElem_cons_zero, Act.put, List.setIfInBounds_toArray, List.set_cons_zero, List.set_cons_succ])
        refine wpAnyH_take (i := 13) (oi := _) (v := .int .i64 0) rfl (by kernel_rfl) (by kernel_rfl) (by kernel_rfl) (fun _ _ _ h => h) (Or.inl ⟨by rfl, ?y13⟩) (by assumption) ?_
        case y13 => intro w hSw; (try dsimp only at hSw); go_split_ands; (go_simp <;> (first | (with_reducible rfl) | rfl | simp))
        (try simp only [List.getElem_toArray, List.getElem_cons_succ, List.getElem_cons_zero, Act.put, List.setIfInBounds_toArray, List.set_cons_zero, List.set_cons_succ])
        refine wpAnyH_ready (rs := [16]) (by kernel_rfl) (by simp) (AllReadyH.cons (o := _) rfl (fun K hK => ?_) AllReadyH.nil)
        go_simp
        refine (needT_no (noT_nil _) _ hbd).mono ?_; rintro e wq ⟨rfl, hbn⟩
        (try go_wp2_with fail)
        refine hK.out _ _ (NnS.full (NnS.below hHeld.1 hbn)) (fun hHeld => ?_)
        clear hK K
        clear hbn
        (try simp only [List.getElem_toArray, List.getElem_cons_succ, List.getElem_cons_zero, Act.put, List.setIfInBounds_toArray, List.set_cons_zero, List.set_cons_succ])
        refine wpAnyH_take (i := 17) (oi := _) (v := .int .i64 0) rfl (by kernel_rfl) (by kernel_rfl) (by kernel_rfl) (fun _ _ _ h => h) (Or.inl ⟨by rfl, ?y17⟩) (by assumption) ?_
        case y17 => intro w hSw; (try dsimp only at hSw); go_split_ands; (go_simp <;> (first | (with_reducible rfl) | rfl | simp))
        (try simp only [List.getElem_toArray, List.getElem_cons_succ, List.getElem_cons_zero, Act.put, List.setIfInBounds_toArray, List.set_cons_zero, List.set_cons_succ])
        refine wpAnyH_ready (rs := [19]) (by kernel_rfl) (by simp) (AllReadyH.cons (o := _) rfl (fun K hK => ?_) AllReadyH.nil)
        go_simp
        (with_reducible refine (lenT_nil _).mono ?_); rintro e wq ⟨rfl, rfl⟩
        (try go_wp2_with fail)
        refine hK.out _ _ (hHeld) (fun hHeld => ?_)
        clear hK K
        (try simp only [List.getElem_toArray, List.getElem_cons_succ, List.getElem_cons_zero, Act.put, List.setIfInBounds_toArray, List.set_cons_zero, List.set_cons_succ])
        refine wpAnyH_take (i := 20) (oi := _) (v := .int .i64 0) rfl (by kernel_rfl) (by kernel_rfl) (by kernel_rfl) (fun _ _ _ h => h) (Or.inl ⟨by rfl, ?y20⟩) (by assumption) ?_
        case y20 => intro w hSw; (try dsimp only at hSw); go_split_ands; (go_simp <;> (first | (with_reducible rfl) | rfl | simp))
        (try simp only [List.getElem_toArray, List.getElem_cons_succ, List.getElem_cons_zero, Act.put, List.setIfInBounds_toArray, List.set_cons_zero, List.set_cons_succ])
        exact tail aa cc _ hHeld
      go_simp
      (with_reducible refine (addT_no (noT_nil _) _).mono ?_); rintro e wq ⟨rfl, rfl⟩
      (try go_wp2_with fail)
      refine hK.out _ _ (hHeld) (fun hHeld => ?_)
      clear hK K
      (try simp only [List.getElem_toArray, List.getElem_cons_succ, List.getElem_cons_zero, Act.put, List.setIfInBounds_toArray, List.set_cons_zero, List.set_cons_succ])
      refine wpAnyH_ready (rs := [8, 23]) (by kernel_rfl) (by simp) (AllReadyH.cons (o := _) rfl (fun K hK => ?_) (AllReadyH.cons (o := _) rfl (fun K hK => ?_) AllReadyH.nil))
      rotate_left
      · -- the second list is made first
        go_simp
        refine hK.out _ _ (NnS.full (NnS.alloc hHeld.1 _)) (fun hHeld => ?_)
        clear hK K
        generalize (World.heap wn).size = cc
        generalize World.alloc wn _ = wn at hHeld ⊢
        (try simp only [List.getElem_toArray, List.getElem_cons_succ, List.getElem_cons_zero, Act.put, List.setIfInBounds_toArray, List.set_cons_zero, List.set_cons_succ])
        refine wpAnyH_ready (rs := [8]) (by kernel_rfl) (by simp) (AllReadyH.cons (o := _) rfl (fun K hK => ?_) AllReadyH.nil)
        go_simp
        refine (DropT_no (noT_nil _) _).mono ?_; rintro e wq ⟨rfl, hbn⟩
        (try go_wp2_with fail)
        refine hK.out _ _ (NnS.full (NnS.below hHeld.1 hbn)) (fun hHeld => ?_)
        clear hK K
        clear hbn
        (try simp only [List.getElem_toArray, List.getElem_cons_succ, List.getElem_cons_zero, Act.put, List.setIfInBounds_toArray, List.set_cons_zero, List.set_cons_succ])
        refine wpAnyH_take (i := 9) (oi := _) (v := .int .i64 0) rfl (by kernel_rfl) (by kernel_rfl) (by kernel_rfl) (fun _ _ _ h => h) (Or.inl ⟨by rfl, ?y9⟩) (by assumption) ?_
        case y9 => intro w hSw; (try dsimp only at hSw); go_split_ands; (go_simp <;> (first | (with_reducible rfl) | rfl | simp))
        (try simp only [List.getElem_toArray, List.getElem_cons_succ, List.getElem_cons_zero, Act.put, List.setIfInBounds_toArray, List.set_cons_zero, List.set_cons_succ])
        refine wpAnyH_ready (rs := [12]) (by kernel_rfl) (by simp) (AllReadyH.cons (o := _) rfl (fun K hK => ?_) AllReadyH.nil)
        go_simp
        refine (ClearT_no (noT_nil _) _ _).mono ?_; rintro e wq ⟨rfl, hbn⟩
        (try go_wp2_with fail)
        refine hK.out _ _ (NnS.full (NnS.below hHeld.1 hbn)) (fun hHeld => ?_)
        clear hK K
        clear hbn
        (try simp only [List.getElem_toArray, List.getElem_cons_succ, List.getElem_cons_zero, Act.put, List.setIfInBounds_toArray, List.set_cons_zero, List.set_cons_succ])
        refine wpAnyH_take (i := 13) (oi := _) (v := .int .i64 0) rfl (by kernel_rfl) (by kernel_rfl) (by kernel_rfl) (fun _ _ _ h => h) (Or.inl ⟨by rfl, ?y13⟩) (by assumption) ?_
        case y13 => intro w hSw; (try dsimp only at hSw); go_split_ands; (go_simp <;> (first | (with_reducible rfl) | rfl | simp))
        (try simp only [List.getElem_toArray, List.getElem_cons_succ, List.getElem_cons_zero, Act.put, List.setIfInBounds_toArray, List.set_cons_zero, List.set_cons_succ])
        refine wpAnyH_ready (rs := [16]) (by kernel_rfl) (by simp) (AllReadyH.cons (o := _) rfl (fun K hK => ?_) AllReadyH.nil)
        go_simp
        refine (needT_no (noT_nil _) _ hbd).mono ?_; rintro e wq ⟨rfl, hbn⟩
        (try go_wp2_with fail)
        refine hK.out _ _ (NnS.full (NnS.below hHeld.1 hbn)) (fun hHeld => ?_)
        clear hK K
        clear hbn
        (try simp only [List.getElem_toArray, List.getElem_cons_succ, List.getElem_cons_zero, Act.put, List.setIfInBounds_toArray, List.set_cons_zero, List.set_cons_succ])
        refine wpAnyH_take (i := 17) (oi := _) (v := .int .i64 0) rfl (by kernel_rfl) (by kernel_rfl) (by kernel_rfl) (fun _ _ _ h => h) (Or.inl ⟨by rfl, ?y17⟩) (by assumption) ?_
        case y17 => intro w hSw; (try dsimp only at hSw); go_split_ands; (go_simp <;> (first | (with_reducible rfl) | rfl | simp))
        (try simp only [List.getElem_toArray, List.getElem_cons_succ, List.getElem_cons_zero, Act.put, List.setIfInBounds_toArray, List.set_cons_zero, List.set_cons_succ])
        refine wpAnyH_ready (rs := [19]) (by kernel_rfl) (by simp) (AllReadyH.cons (o := _) rfl (fun K hK => ?_) AllReadyH.nil)
        go_simp
        (with_reducible refine (lenT_nil _).mono ?_); rintro e wq ⟨rfl, rfl⟩
        (try go_wp2_with fail)
        refine hK.out _ _ (hHeld) (fun hHeld => ?_)
        clear hK K
        (try simp only [List.getElem_toArray, List.getElem_cons_succ, List.getElem_cons_zero, Act.put, List.setIfInBounds_toArray, List.set_cons_zero, List.set_cons_succ])
        refine wpAnyH_take (i := 20) (oi := _) (v := .int .i64 0) rfl (by kernel_rfl) (by kernel_rfl) (by kernel_rfl) (fun _ _ _ h => h) (Or.inl ⟨by rfl, ?y20⟩) (by assumption) ?_
        case y20 => intro w hSw; (try dsimp only at hSw); go_split_ands; (go_simp <;> (first | (with_reducible rfl) | rfl | simp))
        (try simp only [List.getElem_toArray, List.getElem_cons_succ, List.getElem_cons_zero, Act.put, List.setIfInBounds_toArray, List.set_cons_zero, List.set_cons_succ])
        exact tail aa cc _ hHeld
      go_simp
      refine (DropT_no (noT_nil _) _).mono ?_; rintro e wq ⟨rfl, hbn⟩
      (try go_wp2_with fail)
      refine hK.out _ _ (NnS.full (NnS.below hHeld.1 hbn)) (fun hHeld => ?_)
      clear hK K
      clear hbn
      (try simp only [List.getElem_toArray, List.getElem_cons_succ, List.getElem_cons_zero, Act.put, List.setIfInBounds_toArray, List.set_cons_zero, List.set_cons_succ])
      refine wpAnyH_take (i := 9) (oi := _) (v := .int .i64 0) rfl (by kernel_rfl) (by kernel_rfl) (by kernel_rfl) (fun _ _ _ h => h) (Or.inl ⟨by rfl, ?y9⟩) (by assumption) ?_
      case y9 => intro w hSw; (try dsimp only at hSw); go_split_ands; (go_simp <;> (first | (with_reducible rfl) | rfl | simp))
      (try simp only [List.getElem_toArray, List.getElem_cons_succ, List.getElem_cons_zero, Act.put, List.setIfInBounds_toArray, List.set_cons_zero, List.set_cons_succ])
      refine wpAnyH_ready (rs := [12, 23]) (by kernel_rfl) (by simp) (AllReadyH.cons (o := _) rfl (fun K hK => ?_) (AllReadyH.cons (o := _) rfl (fun K hK => ?_) AllReadyH.nil))
      rotate_left
      · -- the second list is made first
        go_simp
        refine hK.out _ _ (NnS.full (NnS.alloc hHeld.1 _)) (fun hHeld => ?_)
        clear hK K
        generalize (World.heap wq).size = cc
        generalize World.alloc wq _ = wn at hHeld ⊢
        (try simp only [List.getElem_toArray, List.getElem_cons_succ, List.getElem_cons_zero, Act.put, List.setIfInBounds_toArray, List.set_cons_zero, List.set_cons_succ])
        refine wpAnyH_ready (rs := [12]) (by kernel_rfl) (by simp) (AllReadyH.cons (o := _) rfl (fun K hK => ?_) AllReadyH.nil)
        go_simp
        refine (ClearT_no (noT_nil _) _ _).mono ?_; rintro e wq ⟨rfl, hbn⟩
        (try go_wp2_with fail)
        refine hK.out _ _ (NnS.full (NnS.below hHeld.1 hbn)) (fun hHeld => ?_)
        clear hK K
        clear hbn
        (try simp only [List.getElem_toArray, List.getElem_cons_succ, List.getElem_cons_zero, Act.put, List.setIfInBounds_toArray, List.set_cons_zero, List.set_cons_succ])
        refine wpAnyH_take (i := 13) (oi := _) (v := .int .i64 0) rfl (by kernel_rfl) (by kernel_rfl) (by kernel_rfl) (fun _ _ _ h => h) (Or.inl ⟨by rfl, ?y13⟩) (by assumption) ?_
        case y13 => intro w hSw; (try dsimp only at hSw); go_split_ands; (go_simp <;> (first | (with_reducible rfl) | rfl | simp))
        (try simp only [List.getElem_toArray, List.getElem_cons_succ, List.getElem_cons_zero, Act.put, List.setIfInBounds_toArray, List.set_cons_zero, List.set_cons_succ])
        refine wpAnyH_ready (rs := [16]) (by kernel_rfl) (by simp) (AllReadyH.cons (o := _) rfl (fun K hK => ?_) AllReadyH.nil)
        go_simp
        refine (needT_no (noT_nil _) _ hbd).mono ?_; rintro e wq ⟨rfl, hbn⟩
        (try go_wp2_with fail)
        refine hK.out _ _ (NnS.full (NnS.below hHeld.1 hbn)) (fun hHeld => ?_)
        clear hK K
        clear hbn
        (try simp only [List.getElem_toArray, List.getElem_cons_succ, List.getElem_cons_zero, Act.put, List.setIfInBounds_toArray, List.set_cons_zero, List.set_cons_succ])
        refine wpAnyH_take (i := 17) (oi := _) (v := .int .i64 0) rfl (by kernel_rfl) (by kernel_rfl) (by kernel_rfl) (fun _ _ _ h => h) (Or.inl ⟨by rfl, ?y17⟩) (by assumption) ?_
        case y17 => intro w hSw; (try dsimp only at hSw); go_split_ands; (go_simp <;> (first | (with_reducible rfl) | rfl | simp))
        (try simp only [List.getElem_toArray, List.getElem_cons_succ, List.getElem_cons_zero, Act.put, List.setIfInBounds_toArray, List.set_cons_zero, List.set_cons_succ])
        refine wpAnyH_ready (rs := [19]) (by kernel_rfl) (by simp) (AllReadyH.cons (o := _) rfl (fun K hK => ?_) AllReadyH.nil)
        go_simp
        (with_reducible refine (lenT_nil _).mono ?_); rintro e wq ⟨rfl, rfl⟩
        (try go_wp2_with fail)
        refine hK.out _ _ (hHeld) (fun hHeld => ?_)
        clear hK K
        (try simp only [List.getElem_toArray, List.getElem_cons_succ, List.getElem_cons_zero, Act.put, List.setIfInBounds_toArray, List.set_cons_zero, List.set_cons_succ])
        refine wpAnyH_take (i := 20) (oi := _) (v := .int .i64 0) rfl (by kernel_rfl) (by kernel_rfl) (by kernel_rfl) (fun _ _ _ h => h) (Or.inl ⟨by rfl, ?y20⟩) (by assumption) ?_
        case y20 => intro w hSw; (try dsimp only at hSw); go_split_ands; (go_simp <;> (first | (with_reducible rfl) | rfl | simp))
        (try simp only [List.getElem_toArray, List.getElem_cons_succ, List.getElem_cons_zero, Act.put, List.setIfInBounds_toArray, List.set_cons_zero, List.set_cons_succ])
        exact tail aa cc _ hHeld
      go_simp
      refine (ClearT_no (noT_nil _) _ _).mono ?_; rintro e wq ⟨rfl, hbn⟩
      (try go_wp2_with fail)
      refine hK.out _ _ (NnS.full (NnS.below hHeld.1 hbn)) (fun hHeld => ?_)
      clear hK K
      clear hbn
      (try simp only [List.getElem_toArray, List.getElem_cons_succ, List.getElem_cons_zero, Act.put, List.setIfInBounds_toArray, List.set_cons_zero, List.set_cons_succ])
      refine wpAnyH_take (i := 13) (oi := _) (v := .int .i64 0) rfl (by kernel_rfl) (by kernel_rfl) (by kernel_rfl) (fun _ _ _ h => h) (Or.inl ⟨by rfl, ?y13⟩) (by assumption) ?_
      case y13 => intro w hSw; (try dsimp only at hSw); go_split_ands; (go_simp <;> (first | (with_reducible rfl) | rfl | simp))
      (try simp only [List.getElem_toArray, List.getElem_cons_succ, List.getElem_cons_zero, Act.put, List.setIfInBounds_toArray, List.set_cons_zero, List.set_cons_succ])
      refine wpAnyH_ready (rs := [16, 23]) (by kernel_rfl) (by simp) (AllReadyH.cons (o := _) rfl (fun K hK => ?_) (AllReadyH.cons (o := _) rfl (fun K hK => ?_) AllReadyH.nil))
      rotate_left
      · -- the second list is made first
        go_simp
        refine hK.out _ _ (NnS.full (NnS.alloc hHeld.1 _)) (fun hHeld => ?_)
        clear hK K
        generalize (World.heap wq).size = cc
        generalize World.alloc wq _ = wn at hHeld ⊢
        (try simp only [List.getElem_toArray, List.getElem_cons_succ, List.getElem_cons_zero, Act.put, List.setIfInBounds_toArray, List.set_cons_zero, List.set_cons_succ])
        refine wpAnyH_ready (rs := [16]) (by kernel_rfl) (by simp) (AllReadyH.cons (o := _) rfl (fun K hK => ?_) AllReadyH.nil)
        go_simp
        refine (needT_no (noT_nil _) _ hbd).mono ?_; rintro e wq ⟨rfl, hbn⟩
        (try go_wp2_with fail)
        refine hK.out _ _ (NnS.full (NnS.below hHeld.1 hbn)) (fun hHeld => ?_)
        clear hK K
        clear hbn
        (try simp only [List.getElem_toArray, List.getElem_cons_succ, List.getElem_cons_zero, Act.put, List.setIfInBounds_toArray, List.set_cons_zero, List.set_cons_succ])
        refine wpAnyH_take (i := 17) (oi := _) (v := .int .i64 0) rfl (by kernel_rfl) (by kernel_rfl) (by kernel_rfl) (fun _ _ _ h => h) (Or.inl ⟨by rfl, ?y17⟩) (by assumption) ?_
        case y17 => intro w hSw; (try dsimp only at hSw); go_split_ands; (go_simp <;> (first | (with_reducible rfl) | rfl | simp))
        (try simp only [List.getElem_toArray, List.getElem_cons_succ, List.getElem_cons_zero, Act.put, List.setIfInBounds_toArray, List.set_cons_zero, List.set_cons_succ])
        refine wpAnyH_ready (rs := [19]) (by kernel_rfl) (by simp) (AllReadyH.cons (o := _) rfl (fun K hK => ?_) AllReadyH.nil)
        go_simp
        (with_reducible refine (lenT_nil _).mono ?_); rintro e wq ⟨rfl, rfl⟩
        (try go_wp2_with fail)
        refine hK.out _ _ (hHeld) (fun hHeld => ?_)
        clear hK K
        (try simp only [List.getElem_toArray, List.getElem_cons_succ, List.getElem_cons_zero, Act.put, List.setIfInBounds_toArray, List.set_cons_zero, List.set_cons_succ])
        refine wpAnyH_take (i := 20) (oi := _) (v := .int .i64 0) rfl (by kernel_rfl) (by kernel_rfl) (by kernel_rfl) (fun _ _ _ h => h) (Or.inl ⟨by rfl, ?y20⟩) (by assumption) ?_
        case y20 => intro w hSw; (try dsimp only at hSw); go_split_ands; (go_simp <;> (first | (with_reducible rfl) | rfl | simp))
        (try simp only [List.getElem_toArray, List.getElem_cons_succ, List.getElem_cons_zero, Act.put, List.setIfInBounds_toArray, List.set_cons_zero, List.set_cons_succ])
        exact tail aa cc _ hHeld
      go_simp
      refine (needT_no (noT_nil _) _ hbd).mono ?_; rintro e wq ⟨rfl, hbn⟩
      (try go_wp2_with fail)
      refine hK.out _ _ (NnS.full (NnS.below hHeld.1 hbn)) (fun hHeld => ?_)
      clear hK K
      clear hbn
      (try simp only [List.getElem_toArray, List.getElem_cons_succ, List.getElem_cons_zero, Act.put, List.setIfInBounds_toArray, List.set_cons_zero, List.set_cons_succ])
      refine wpAnyH_take (i := 17) (oi := _) (v := .int .i64 0) rfl (by kernel_rfl) (by kernel_rfl) (by kernel_rfl) (fun _ _ _ h => h) (Or.inl ⟨by rfl, ?y17⟩) (by assumption) ?_
      case y17 => intro w hSw; (try dsimp only at hSw); go_split_ands; (go_simp <;> (first | (with_reducible rfl) | rfl | simp))
      (try simp only [List.getElem_toArray, List.getElem_cons_succ, List.getElem_cons_zero, Act.put, List.setIfInBounds_toArray, List.set_cons_zero, List.set_cons_succ])
      refine wpAnyH_ready (rs := [19, 23]) (by kernel_rfl) (by simp) (AllReadyH.cons (o := _) rfl (fun K hK => ?_) (AllReadyH.cons (o := _) rfl (fun K hK => ?_) AllReadyH.nil))
      rotate_left
      · -- the second list is made first
        go_simp
        refine hK.out _ _ (NnS.full (NnS.alloc hHeld.1 _)) (fun hHeld => ?_)
        clear hK K
        generalize (World.heap wq).size = cc
        generalize World.alloc wq _ = wn at hHeld ⊢
        (try simp only [List.getElem_toArray, List.getElem_cons_succ, List.getElem_cons_zero, Act.put, List.setIfInBounds_toArray, List.set_cons_zero, List.set_cons_succ])
        refine wpAnyH_ready (rs := [19]) (by kernel_rfl) (by simp) (AllReadyH.cons (o := _) rfl (fun K hK => ?_) AllReadyH.nil)
        go_simp
        (with_reducible refine (lenT_nil _).mono ?_); rintro e wq ⟨rfl, rfl⟩
        (try go_wp2_with fail)
        refine hK.out _ _ (hHeld) (fun hHeld => ?_)
        clear hK K
        (try simp only [List.getElem_toArray, List.getElem_cons_succ, List.getElem_cons_zero, Act.put, List.setIfInBounds_toArray, List.set_cons_zero, List.set_cons_succ])
        refine wpAnyH_take (i := 20) (oi := _) (v := .int .i64 0) rfl (by kernel_rfl) (by kernel_rfl) (by kernel_rfl) (fun _ _ _ h => h) (Or.inl ⟨by rfl, ?y20⟩) (by assumption) ?_
        case y20 => intro w hSw; (try dsimp only at hSw); go_split_ands; (go_simp <;> (first | (with_reducible rfl) | rfl | simp))
        (try simp only [List.getElem_toArray, List.getElem_cons_succ, List.getElem_cons_zero, Act.put, List.setIfInBounds_toArray, List.set_cons_zero, List.set_cons_succ])
        exact tail aa cc _ hHeld
      go_simp
      (with_reducible refine (lenT_nil _).mono ?_); rintro e wq ⟨rfl, rfl⟩
      (try go_wp2_with fail)
      refine hK.out _ _ (hHeld) (fun hHeld => ?_)
      clear hK K
      (try simp only [List.getElem_toArray, List.getElem_cons_succ, List.getElem_cons_zero, Act.put, List.setIfInBounds_toArray, List.set_cons_zero, List.set_cons_succ])
      refine wpAnyH_take (i := 20) (oi := _) (v := .int .i64 0) rfl (by kernel_rfl) (by kernel_rfl) (by kernel_rfl) (fun _ _ _ h => h) (Or.inl ⟨by rfl, ?y20⟩) (by assumption) ?_
      case y20 => intro w hSw; (try dsimp only at hSw); go_split_ands; (go_simp <;> (first | (with_reducible rfl) | rfl | simp))
      (try simp only [List.getElem_toArray, List.getElem_cons_succ, List.getElem_cons_zero, Act.put, List.setIfInBounds_toArray, List.set_cons_zero, List.set_cons_succ])
      refine wpAnyH_ready (rs := [23]) (by kernel_rfl) (by simp) (AllReadyH.cons (o := _) rfl (fun K hK => ?_) AllReadyH.nil)
      go_simp
      refine hK.out _ _ (NnS.full (NnS.alloc hHeld.1 _)) (fun hHeld => ?_)
      clear hK K
      generalize (World.heap wq).size = cc
      generalize World.alloc wq _ = wn at hHeld ⊢
      (try simp only [List.getElem_toArray, List.getElem_cons_succ, List.getElem_cons_zero, Act.put, List.setIfInBounds_toArray, List.set_cons_zero, List.set_cons_succ])
      exact tail aa cc _ hHeld
    case tail =>
      clear hHeld
      intro aa cc W3 hHeld
      refine wpAnyH_ready (rs := [24]) (by kernel_rfl) (by simp) (AllReadyH.cons (o := _) rfl (fun K hK => ?_) AllReadyH.nil)
      go_simp
      refine (addT_no (noT_zero (NnS.zt hHeld.1)) _).mono ?_; rintro e wq ⟨rfl, rfl⟩
      (try go_wp2_with fail)
      refine hK.out _ _ (hHeld) (fun hHeld => ?_)
      clear hK K
      (try simp only [List.getElem_toArray, List.getElem_cons_succ, List.getElem_cons_zero, Act.put, List.setIfInBounds_toArray, List.set_cons_zero, List.set_cons_succ])
      refine wpAnyH_take (i := 25) (oi := _) (v := .int .i64 0) rfl (by kernel_rfl) (by kernel_rfl) (by kernel_rfl) (fun _ _ _ h => h) (Or.inl ⟨by rfl, ?y25⟩) (by assumption) ?_
      case y25 => intro w hSw; (try dsimp only at hSw); go_split_ands; (go_simp <;> (first | (with_reducible rfl) | rfl | simp))
      (try simp only [List.getElem_toArray, List.getElem_cons_succ, List.getElem_cons_zero, Act.put, List.setIfInBounds_toArray, List.set_cons_zero, List.set_cons_succ])
      refine wpAnyH_ready (rs := [27]) (by kernel_rfl) (by simp) (AllReadyH.cons (o := _) rfl (fun K hK => ?_) AllReadyH.nil)
      go_simp
      refine (lenT_zero (NnS.zt hHeld.1)).mono ?_; rintro e wq ⟨rfl, rfl⟩
      (try go_wp2_with fail)
      refine hK.out _ _ (hHeld) (fun hHeld => ?_)
      clear hK K
      (try simp only [List.getElem_toArray, List.getElem_cons_succ, List.getElem_cons_zero, Act.put, List.setIfInBounds_toArray, List.set_cons_zero, List.set_cons_succ])
      refine wpAnyH_take (i := 28) (oi := _) (v := .int .i64 0) rfl (by kernel_rfl) (by kernel_rfl) (by kernel_rfl) (fun _ _ _ h => h) (Or.inl ⟨by rfl, ?y28⟩) (by assumption) ?_
      case y28 => intro w hSw; (try dsimp only at hSw); go_split_ands; (go_simp <;> (first | (with_reducible rfl) | rfl | simp))
      (try simp only [List.getElem_toArray, List.getElem_cons_succ, List.getElem_cons_zero, Act.put, List.setIfInBounds_toArray, List.set_cons_zero, List.set_cons_succ])
      refine wpAnyH_take (i := 29) (oi := _) (v := .bool true) rfl (by kernel_rfl) (by kernel_rfl) (by kernel_rfl) (fun _ _ _ h => h) (Or.inl ⟨by rfl, ?y29⟩) (by assumption) ?_
      case y29 => intro w hSw; (try dsimp only at hSw); go_split_ands; (go_simp <;> (first | (with_reducible rfl) | rfl | simp))
      (try simp only [List.getElem_toArray, List.getElem_cons_succ, List.getElem_cons_zero, Act.put, List.setIfInBounds_toArray, List.set_cons_zero, List.set_cons_succ])
      refine wpAnyH_take (i := 30) (oi := _) (v := .bool true) rfl (by kernel_rfl) (by kernel_rfl) (by kernel_rfl) (fun _ _ _ h => h) (Or.inl ⟨by rfl, ?y30⟩) (by assumption) ?_
      case y30 => intro w hSw; (try dsimp only at hSw); go_split_ands; (go_simp <;> (first | (with_reducible rfl) | rfl | simp))
      (try simp only [List.getElem_toArray, List.getElem_cons_succ, List.getElem_cons_zero, Act.put, List.setIfInBounds_toArray, List.set_cons_zero, List.set_cons_succ])
      refine wpAnyH_take (i := 31) (oi := _) (v := .bool true) rfl (by kernel_rfl) (by kernel_rfl) (by kernel_rfl) (fun _ _ _ h => h) (Or.inl ⟨by rfl, ?y31⟩) (by assumption) ?_
      case y31 => intro w hSw; (try dsimp only at hSw); go_split_ands; (go_simp <;> (first | (with_reducible rfl) | rfl | simp))
      (try simp only [List.getElem_toArray, List.getElem_cons_succ, List.getElem_cons_zero, Act.put, List.setIfInBounds_toArray, List.set_cons_zero, List.set_cons_succ])
      refine wpAnyH_take (i := 32) (oi := _) (v := ?_) rfl (by kernel_rfl) (by kernel_rfl) (by kernel_rfl) (fun _ _ _ h => h) (Or.inl ⟨by rfl, ?y32⟩) (by assumption) ?_
      case y32 => intro w hSw; (try dsimp only at hSw); go_split_ands; (go_simp <;> with_reducible rfl)
      (try simp only [List.getElem_toArray, List.getElem_cons_succ, List.getElem_cons_zero, Act.put, List.setIfInBounds_toArray, List.set_cons_zero, List.set_cons_succ])
      refine wpAnyH_take (i := 33) (oi := _) (v := .bool true) rfl (by kernel_rfl) (by kernel_rfl) (by kernel_rfl) (fun _ _ _ h => h) (Or.inl ⟨by rfl, ?y33⟩) (by assumption) ?_
      case y33 => intro w hSw; (try dsimp only at hSw); go_split_ands; (go_simp <;> (first | (with_reducible rfl) | rfl | simp))
      (try simp only [List.getElem_toArray, List.getElem_cons_succ, List.getElem_cons_zero, Act.put, List.setIfInBounds_toArray, List.set_cons_zero, List.set_cons_succ])
      refine wpAnyH_take (i := 34) (oi := _) (v := .bool true) rfl (by kernel_rfl) (by kernel_rfl) (by kernel_rfl) (fun _ _ _ h => h) (Or.inl ⟨by rfl, ?y34⟩) (by assumption) ?_
      case y34 => intro w hSw; (try dsimp only at hSw); go_split_ands; (go_simp <;> (first | (with_reducible rfl) | rfl | simp))
      (try simp only [List.getElem_toArray, List.getElem_cons_succ, List.getElem_cons_zero, Act.put, List.setIfInBounds_toArray, List.set_cons_zero, List.set_cons_succ])
      refine wpAnyH_take (i := 35) (oi := _) (v := .bool true) rfl (by kernel_rfl) (by kernel_rfl) (by kernel_rfl) (fun _ _ _ h => h) (Or.inl ⟨by rfl, ?y35⟩) (by assumption) ?_
      case y35 => intro w hSw; (try dsimp only at hSw); go_split_ands; (go_simp <;> (first | (with_reducible rfl) | rfl | simp))
      (try simp only [List.getElem_toArray, List.getElem_cons_succ, List.getElem_cons_zero, Act.put, List.setIfInBounds_toArray, List.set_cons_zero, List.set_cons_succ])
      refine wpAnyH_take (i := 36) (oi := _) (v := ?_) rfl (by kernel_rfl) (by kernel_rfl) (by kernel_rfl) (fun _ _ _ h => h) (Or.inl ⟨by rfl, ?y36⟩) (by assumption) ?_
      case y36 => intro w hSw; (try dsimp only at hSw); go_split_ands; (go_simp <;> with_reducible rfl)
      (try simp only [List.getElem_toArray, List.getElem_cons_succ, List.getElem_cons_zero, Act.put, List.setIfInBounds_toArray, List.set_cons_zero, List.set_cons_succ])
      refine wpAnyH_take (i := 37) (oi := _) (v := ?_) rfl (by kernel_rfl) (by kernel_rfl) (by kernel_rfl) (fun _ _ _ h => h) (Or.inl ⟨by rfl, ?y37⟩) (by assumption) ?_
      case y37 => intro w hSw; (try dsimp only at hSw); go_split_ands; (go_simp <;> with_reducible rfl)
      (try simp only [List.getElem_toArray, List.getElem_cons_succ, List.getElem_cons_zero, Act.put, List.setIfInBounds_toArray, List.set_cons_zero, List.set_cons_succ])
      refine wpAnyH_take (i := 40) (oi := _) (v := ?_) rfl (by kernel_rfl) (by kernel_rfl) (by kernel_rfl) (fun _ _ _ h => h) (Or.inl ⟨by rfl, ?y40⟩) (by assumption) ?_
      case y40 => intro w hSw; (try dsimp only at hSw); go_split_ands; (go_simp <;> with_reducible rfl)
      (try simp only [List.getElem_toArray, List.getElem_cons_succ, List.getElem_cons_zero, Act.put, List.setIfInBounds_toArray, List.set_cons_zero, List.set_cons_succ])
      refine wpAnyH_take (i := 44) (oi := _) (v := ?_) rfl (by kernel_rfl) (by kernel_rfl) (by kernel_rfl) (fun _ _ _ h => h) (Or.inl ⟨by rfl, ?y44⟩) (by assumption) ?_
      case y44 => intro w hSw; (try dsimp only at hSw); go_split_ands; (go_simp <;> with_reducible rfl)
      (try simp only [List.getElem_toArray, List.getElem_cons_succ, List.getElem_cons_zero, Act.put, List.setIfInBounds_toArray, List.set_cons_zero, List.set_cons_succ])
      refine wpAnyH_take (i := 48) (oi := _) (v := ?_) rfl (by kernel_rfl) (by kernel_rfl) (by kernel_rfl) (fun _ _ _ h => h) (Or.inl ⟨by rfl, ?y48⟩) (by assumption) ?_
      case y48 => intro w hSw; (try dsimp only at hSw); go_split_ands; (go_simp <;> with_reducible rfl)
      (try simp only [List.getElem_toArray, List.getElem_cons_succ, List.getElem_cons_zero, Act.put, List.setIfInBounds_toArray, List.set_cons_zero, List.set_cons_succ])
      refine wpAnyH_take (i := 49) (oi := _) (v := ?_) rfl (by kernel_rfl) (by kernel_rfl) (by kernel_rfl) (fun _ _ _ h => h) (Or.inl ⟨by rfl, ?y49⟩) (by assumption) ?_
      case y49 => intro w hSw; (try dsimp only at hSw); go_split_ands; (go_simp <;> with_reducible rfl)
      (try simp only [List.getElem_toArray, List.getElem_cons_succ, List.getElem_cons_zero, Act.put, List.setIfInBounds_toArray, List.set_cons_zero, List.set_cons_succ])
      refine wpAnyH_take (i := 53) (oi := _) (v := ?_) rfl (by kernel_rfl) (by kernel_rfl) (by kernel_rfl) (fun _ _ _ h => h) (Or.inl ⟨by rfl, ?y53⟩) (by assumption) ?_
      case y53 => intro w hSw; (try dsimp only at hSw); go_split_ands; (go_simp <;> with_reducible rfl)
      (try simp only [List.getElem_toArray, List.getElem_cons_succ, List.getElem_cons_zero, Act.put, List.setIfInBounds_toArray, List.set_cons_zero, List.set_cons_succ])
      refine wpAnyH_ready (rs := [38]) (by kernel_rfl) (by simp) (AllReadyH.cons (o := _) rfl (fun K hK => ?_) AllReadyH.nil)
      go_simp
      refine (rangeT_no (noT_nil _) _ _ _).mono ?_; rintro e wq ⟨Aq, cq, rfl, hbn⟩
      (try go_wp2_with fail)
      refine hK.out _ _ (NnS.full (NnS.below hHeld.1 hbn)) (fun hHeld => ?_)
      clear hK K
      clear hbn
      (try simp only [List.getElem_toArray, List.getElem_cons_succ, List.getElem_cons_zero, Act.put, List.setIfInBounds_toArray, List.set_cons_zero, List.set_cons_succ])
      refine wpAnyH_take (i := 39) (oi := _) (v := .int .i64 0) rfl (by kernel_rfl) (by kernel_rfl) (by kernel_rfl) (fun _ _ _ h => h) (Or.inl ⟨by rfl, ?y39⟩) (by assumption) ?_
      case y39 => intro w hSw; (try dsimp only at hSw); go_split_ands; (go_simp <;> (first | (with_reducible rfl) | rfl | simp))
      (try simp only [List.getElem_toArray, List.getElem_cons_succ, List.getElem_cons_zero, Act.put, List.setIfInBounds_toArray, List.set_cons_zero, List.set_cons_succ])
      refine wpAnyH_ready (rs := [41]) (by kernel_rfl) (by simp) (AllReadyH.cons (o := _) rfl (fun K hK => ?_) AllReadyH.nil)
      go_simp
      (with_reducible refine (allT_no (noT_nil _)).mono ?_); rintro e wq ⟨rfl, rfl⟩
      (try go_wp2_with fail)
      refine hK.out _ _ (hHeld) (fun hHeld => ?_)
      clear hK K
      (try simp only [List.getElem_toArray, List.getElem_cons_succ, List.getElem_cons_zero, Act.put, List.setIfInBounds_toArray, List.set_cons_zero, List.set_cons_succ])
      refine wpAnyH_take (i := 42) (oi := _) (v := .int .i64 0) rfl (by kernel_rfl) (by kernel_rfl) (by kernel_rfl) (fun _ _ _ h => h) (Or.inl ⟨by rfl, ?y42⟩) (by assumption) ?_
      case y42 => intro w hSw; (try dsimp only at hSw); go_split_ands; (go_simp <;> (first | (with_reducible rfl) | rfl | simp))
      (try simp only [List.getElem_toArray, List.getElem_cons_succ, List.getElem_cons_zero, Act.put, List.setIfInBounds_toArray, List.set_cons_zero, List.set_cons_succ])
      refine wpAnyH_take (i := 43) (oi := _) (v := .int .i64 0) rfl (by kernel_rfl) (by kernel_rfl) (by kernel_rfl) (fun _ _ _ h => h) (Or.inl ⟨by rfl, ?y43⟩) (by assumption) ?_
      case y43 => intro w hSw; (try dsimp only at hSw); go_split_ands; (go_simp <;> (first | (with_reducible rfl) | rfl | simp))
      (try simp only [List.getElem_toArray, List.getElem_cons_succ, List.getElem_cons_zero, Act.put, List.setIfInBounds_toArray, List.set_cons_zero, List.set_cons_succ])
      refine wpAnyH_ready (rs := [45]) (by kernel_rfl) (by simp) (AllReadyH.cons (o := _) rfl (fun K hK => ?_) AllReadyH.nil)
      go_simp
      refine (namesT_no (noT_nil _)).mono ?_; rintro e wq ⟨Aq, cq, rfl, hbn⟩
      (try go_wp2_with fail)
      refine hK.out _ _ (NnS.full (NnS.below hHeld.1 hbn)) (fun hHeld => ?_)
      clear hK K
      clear hbn
      (try simp only [List.getElem_toArray, List.getElem_cons_succ, List.getElem_cons_zero, Act.put, List.setIfInBounds_toArray, List.set_cons_zero, List.set_cons_succ])
      refine wpAnyH_take (i := 46) (oi := _) (v := .int .i64 0) rfl (by kernel_rfl) (by kernel_rfl) (by kernel_rfl) (fun _ _ _ h => h) (Or.inl ⟨by rfl, ?y46⟩) (by assumption) ?_
      case y46 => intro w hSw; (try dsimp only at hSw); go_split_ands; (go_simp <;> (first | (with_reducible rfl) | rfl | simp))
      (try simp only [List.getElem_toArray, List.getElem_cons_succ, List.getElem_cons_zero, Act.put, List.setIfInBounds_toArray, List.set_cons_zero, List.set_cons_succ])
      refine wpAnyH_take (i := 47) (oi := _) (v := .int .i64 0) rfl (by kernel_rfl) (by kernel_rfl) (by kernel_rfl) (fun _ _ _ h => h) (Or.inl ⟨by rfl, ?y47⟩) (by assumption) ?_
      case y47 => intro w hSw; (try dsimp only at hSw); go_split_ands; (go_simp <;> (first | (with_reducible rfl) | rfl | simp))
      (try simp only [List.getElem_toArray, List.getElem_cons_succ, List.getElem_cons_zero, Act.put, List.setIfInBounds_toArray, List.set_cons_zero, List.set_cons_succ])
      refine wpAnyH_ready (rs := [50]) (by kernel_rfl) (by simp) (AllReadyH.cons (o := _) rfl (fun K hK => ?_) AllReadyH.nil)
      go_simp
      refine (shardT_no (noT_nil _) _ _).mono ?_; rintro e wq ⟨Aq, cq, rfl, hbn⟩
      (try go_wp2_with fail)
      refine hK.out _ _ (NnS.full (NnS.below hHeld.1 hbn)) (fun hHeld => ?_)
      clear hK K
      clear hbn
      (try simp only [List.getElem_toArray, List.getElem_cons_succ, List.getElem_cons_zero, Act.put, List.setIfInBounds_toArray, List.set_cons_zero, List.set_cons_succ])
      refine wpAnyH_take (i := 51) (oi := _) (v := .int .i64 0) rfl (by kernel_rfl) (by kernel_rfl) (by kernel_rfl) (fun _ _ _ h => h) (Or.inl ⟨by rfl, ?y51⟩) (by assumption) ?_
      case y51 => intro w hSw; (try dsimp only at hSw); go_split_ands; (go_simp <;> (first | (with_reducible rfl) | rfl | simp))
      (try simp only [List.getElem_toArray, List.getElem_cons_succ, List.getElem_cons_zero, Act.put, List.setIfInBounds_toArray, List.set_cons_zero, List.set_cons_succ])
      refine wpAnyH_take (i := 52) (oi := _) (v := .int .i64 0) rfl (by kernel_rfl) (by kernel_rfl) (by kernel_rfl) (fun _ _ _ h => h) (Or.inl ⟨by rfl, ?y52⟩) (by assumption) ?_
      case y52 => intro w hSw; (try dsimp only at hSw); go_split_ands; (go_simp <;> (first | (with_reducible rfl) | rfl | simp))
      (try simp only [List.getElem_toArray, List.getElem_cons_succ, List.getElem_cons_zero, Act.put, List.setIfInBounds_toArray, List.set_cons_zero, List.set_cons_succ])
      refine wpAnyH_ready (rs := [54]) (by kernel_rfl) (by simp) (AllReadyH.cons (o := _) rfl (fun K hK => ?_) AllReadyH.nil)
      go_simp
      refine (allT_no (noT_zero (NnS.zt hHeld.1))).mono ?_; rintro e wq ⟨rfl, rfl⟩
      (try go_wp2_with fail)
      refine hK.out _ _ (hHeld) (fun hHeld => ?_)
      clear hK K
      (try simp only [List.getElem_toArray, List.getElem_cons_succ, List.getElem_cons_zero, Act.put, List.setIfInBounds_toArray, List.set_cons_zero, List.set_cons_succ])
      refine wpAnyH_take (i := 55) (oi := _) (v := .int .i64 0) rfl (by kernel_rfl) (by kernel_rfl) (by kernel_rfl) (fun _ _ _ h => h) (Or.inl ⟨by rfl, ?y55⟩) (by assumption) ?_
      case y55 => intro w hSw; (try dsimp only at hSw); go_split_ands; (go_simp <;> (first | (with_reducible rfl) | rfl | simp))
      (try simp only [List.getElem_toArray, List.getElem_cons_succ, List.getElem_cons_zero, Act.put, List.setIfInBounds_toArray, List.set_cons_zero, List.set_cons_succ])
      refine wpAnyH_take (i := 56) (oi := _) (v := .int .i64 0) rfl (by kernel_rfl) (by kernel_rfl) (by kernel_rfl) (fun _ _ _ h => h) (Or.inl ⟨by rfl, ?y56⟩) (by assumption) ?_
      case y56 => intro w hSw; (try dsimp only at hSw); go_split_ands; (go_simp <;> (first | (with_reducible rfl) | rfl | simp))
      (try simp only [List.getElem_toArray, List.getElem_cons_succ, List.getElem_cons_zero, Act.put, List.setIfInBounds_toArray, List.set_cons_zero, List.set_cons_succ])
      refine wpAnyH_take (i := 57) (oi := _) (v := .bool true) rfl (by kernel_rfl) (by kernel_rfl) (by kernel_rfl) (fun _ _ _ h => h) (Or.inl ⟨by rfl, ?y57⟩) (by assumption) ?_
      case y57 => intro w hSw; (try dsimp only at hSw); go_split_ands; (go_simp <;> (first | (with_reducible rfl) | rfl | simp))
      (try simp only [List.getElem_toArray, List.getElem_cons_succ, List.getElem_cons_zero, Act.put, List.setIfInBounds_toArray, List.set_cons_zero, List.set_cons_succ])
      refine wpAnyH_take (i := 58) (oi := _) (v := .bool true) rfl (by kernel_rfl) (by kernel_rfl) (by kernel_rfl) (fun _ _ _ h => h) (Or.inl ⟨by rfl, ?y58⟩) (by assumption) ?_
      case y58 => intro w hSw; (try dsimp only at hSw); go_split_ands; (go_simp <;> (first | (with_reducible rfl) | rfl | simp))
      (try simp only [List.getElem_toArray, List.getElem_cons_succ, List.getElem_cons_zero, Act.put, List.setIfInBounds_toArray, List.set_cons_zero, List.set_cons_succ])
      refine wpAnyH_take (i := 59) (oi := _) (v := .bool true) rfl (by kernel_rfl) (by kernel_rfl) (by kernel_rfl) (fun _ _ _ h => h) (Or.inl ⟨by rfl, ?y59⟩) (by assumption) ?_
      case y59 => intro w hSw; (try dsimp only at hSw); go_split_ands; (go_simp <;> (first | (with_reducible rfl) | rfl | simp))
      (try simp only [List.getElem_toArray, List.getElem_cons_succ, List.getElem_cons_zero, Act.put, List.setIfInBounds_toArray, List.set_cons_zero, List.set_cons_succ])
      refine wpAnyH_take (i := 60) (oi := _) (v := ?_) rfl (by kernel_rfl) (by kernel_rfl) (by kernel_rfl) (fun _ _ _ h => h) (Or.inl ⟨by rfl, ?y60⟩) (by assumption) ?_
      case y60 => intro w hSw; (try dsimp only at hSw); go_split_ands; (go_simp <;> with_reducible rfl)
      (try simp only [List.getElem_toArray, List.getElem_cons_succ, List.getElem_cons_zero, Act.put, List.setIfInBounds_toArray, List.set_cons_zero, List.set_cons_succ])
      refine wpAnyH_ready (rs := [61]) (by kernel_rfl) (by simp) (AllReadyH.cons (o := _) rfl (fun K hK => ?_) AllReadyH.nil)
      go_simp
      refine (rollT_nil _ _ _).mono ?_; rintro e wq ⟨rfl, rfl⟩
      (try go_wp2_with fail)
      refine hK.out _ _ (hHeld) (fun hHeld => ?_)
      clear hK K
      (try simp only [List.getElem_toArray, List.getElem_cons_succ, List.getElem_cons_zero, Act.put, List.setIfInBounds_toArray, List.set_cons_zero, List.set_cons_succ])
      refine wpAnyH_take (i := 62) (oi := _) (v := .bool true) rfl (by kernel_rfl) (by kernel_rfl) (by kernel_rfl) (fun _ _ _ h => h) (Or.inl ⟨by rfl, ?y62⟩) (by assumption) ?_
      case y62 => intro w hSw; (try dsimp only at hSw); go_split_ands; (go_simp <;> (first | (with_reducible rfl) | rfl | simp))
      (try simp only [List.getElem_toArray, List.getElem_cons_succ, List.getElem_cons_zero, Act.put, List.setIfInBounds_toArray, List.set_cons_zero, List.set_cons_succ])
      refine wpAnyH_take (i := 63) (oi := _) (v := .bool true) rfl (by kernel_rfl) (by kernel_rfl) (by kernel_rfl) (fun _ _ _ h => h) (Or.inl ⟨by rfl, ?y63⟩) (by assumption) ?_
      case y63 => intro w hSw; (try dsimp only at hSw); go_split_ands; (go_simp <;> (first | (with_reducible rfl) | rfl | simp))
      (try simp only [List.getElem_toArray, List.getElem_cons_succ, List.getElem_cons_zero, Act.put, List.setIfInBounds_toArray, List.set_cons_zero, List.set_cons_succ])
      refine wpAnyH_take (i := 64) (oi := _) (v := .bool true) rfl (by kernel_rfl) (by kernel_rfl) (by kernel_rfl) (fun _ _ _ h => h) (Or.inl ⟨by rfl, ?y64⟩) (by assumption) ?_
      case y64 => intro w hSw; (try dsimp only at hSw); go_split_ands; (go_simp <;> (first | (with_reducible rfl) | rfl | simp))
      (try simp only [List.getElem_toArray, List.getElem_cons_succ, List.getElem_cons_zero, Act.put, List.setIfInBounds_toArray, List.set_cons_zero, List.set_cons_succ])
      refine wpAnyH_take (i := 65) (oi := _) (v := ?_) rfl (by kernel_rfl) (by kernel_rfl) (by kernel_rfl) (fun _ _ _ h => h) (Or.inl ⟨by rfl, ?y65⟩) (by assumption) ?_
      case y65 => intro w hSw; (try dsimp only at hSw); go_split_ands; (go_simp <;> with_reducible rfl)
      (try simp only [List.getElem_toArray, List.getElem_cons_succ, List.getElem_cons_zero, Act.put, List.setIfInBounds_toArray, List.set_cons_zero, List.set_cons_succ])
      refine wpAnyH_ready (rs := [66]) (by kernel_rfl) (by simp) (AllReadyH.cons (o := _) rfl (fun K hK => ?_) AllReadyH.nil)
      go_simp
      refine (copyT_nil _).mono ?_; rintro e wq ⟨rfl, rfl⟩
      (try go_wp2_with fail)
      refine hK.out _ _ (hHeld) (fun hHeld => ?_)
      clear hK K
      (try simp only [List.getElem_toArray, List.getElem_cons_succ, List.getElem_cons_zero, Act.put, List.setIfInBounds_toArray, List.set_cons_zero, List.set_cons_succ])
      refine wpAnyH_take (i := 67) (oi := _) (v := .bool true) rfl (by kernel_rfl) (by kernel_rfl) (by kernel_rfl) (fun _ _ _ h => h) (Or.inl ⟨by rfl, ?y67⟩) (by assumption) ?_
      case y67 => intro w hSw; (try dsimp only at hSw); go_split_ands; (go_simp <;> (first | (with_reducible rfl) | rfl | simp))
      (try simp only [List.getElem_toArray, List.getElem_cons_succ, List.getElem_cons_zero, Act.put, List.setIfInBounds_toArray, List.set_cons_zero, List.set_cons_succ])
      refine wpAnyH_take (i := 68) (oi := _) (v := .bool true) rfl (by kernel_rfl) (by kernel_rfl) (by kernel_rfl) (fun _ _ _ h => h) (Or.inl ⟨by rfl, ?y68⟩) (by assumption) ?_
      case y68 => intro w hSw; (try dsimp only at hSw); go_split_ands; (go_simp <;> (first | (with_reducible rfl) | rfl | simp))
      (try simp only [List.getElem_toArray, List.getElem_cons_succ, List.getElem_cons_zero, Act.put, List.setIfInBounds_toArray, List.set_cons_zero, List.set_cons_succ])
      refine wpAnyH_take (i := 69) (oi := _) (v := .bool true) rfl (by kernel_rfl) (by kernel_rfl) (by kernel_rfl) (fun _ _ _ h => h) (Or.inl ⟨by rfl, ?y69⟩) (by assumption) ?_
      case y69 => intro w hSw; (try dsimp only at hSw); go_split_ands; (go_simp <;> (first | (with_reducible rfl) | rfl | simp))
      (try simp only [List.getElem_toArray, List.getElem_cons_succ, List.getElem_cons_zero, Act.put, List.setIfInBounds_toArray, List.set_cons_zero, List.set_cons_succ])
      refine wpAnyH_done (by kernel_rfl) ?_ _
      have hfin := hHeld.1.bel
      go_wp2
      go_ret
      refine ⟨?_, hfin⟩
      first | rfl | (simp; done) | (simp only [List.getD_toArray]; rfl) | (trace_state; fail)
end Go.Proofs.Ytdlmipoeeiaapaa
