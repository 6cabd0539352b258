/-
  slices.IndexFunc and slices.DeleteFunc at records.
-/
import Derived.Test.YtcglbbabfkbcbadGreatM7
namespace Go.Proofs.YtcglbbabfkbcbadGreat
open Go.RowKit Go.Maps

/-- Where the first that is so stands, or -1. -/
def idxP (p : Rc → Bool) (l : List Rc) : Int := match l.findIdx? p with | some i => i | none => -1
theorem idxP_no {p : Rc → Bool} {l : List Rc} (h : ∀ r ∈ l, p r = false) : idxP p l = -1 := by
  unfold idxP
  have : l.findIdx? p = none := by rw [List.findIdx?_eq_none_iff]; simpa using h
  rw [this]
theorem idxP_at {p : Rc → Bool} {l : List Rc} {j : Nat} (hj : j < l.length) (h : p l[j] = true) (ha : ∀ i (hi : i < l.length), i < j → p l[i] = false) : idxP p l = j := by
  unfold idxP
  have : l.findIdx? p = some j := by
    rw [List.findIdx?_eq_some_iff_getElem]
    exact ⟨hj, h, fun i hi => by rw [ha i (by omega) hi]; simp⟩
  rw [this]
def CbGives (p : Rc → Bool) (f : Nat) (cb : Array Value) (l : List Rc) (row : Option Nat) (w : World) : Prop :=
  ∀ (W : World) (r : Rc), w.grownBy W row → r ∈ l → Calls Tryz.prog f (#[r.val] ++ cb) W fun e w' => e = .returned (.bool (p r)) ∧ W.grownBy w' none
theorem grown_or {a b c : World} {row : Option Nat} (h : a.grownBy b row) (k : b.grownBy c none) : a.grownBy c row := h.andThen k (fun j hj => by cases hj)
set_option maxRecDepth 100000 in
set_option maxHeartbeats 4000000 in
theorem indexF_any (p : Rc → Bool) (f : Nat) (cb : Array Value) (A : Option Addr) (n c : Nat) (l : List Rc) (w : World) (h : Rcs w A n l) (ef : ∀ args w, (callFunc f args).run Tryz.prog w = .ok (.enter f args) w) (hso : CbGives p f cb l none w) :
    Calls Tryz.prog 89 #[.slice A n c, .func (.func f) #[] cb] w fun e w' => e = .returned (.int .i64 (idxP p l)) ∧ w.grownBy w' none := by
  have hn := h.n_le
  have HL := Lib.hid h.len
  unfold maxLen at hn
  have HD : Aside _ := hso
  clear hso
  go_enter Tryz.func89, Tryz.ntmps89
  go_wp2
  go_loopw [8] (fun i wr => ∃ j : Nat, j ≤ n ∧ i = .int .i64 j ∧ (∀ i (hi : i < l.length), i < j → p l[i] = false) ∧ w.grownBy wr none) (fun i _ => n - (intOf i).toNat)
  case atStart => exact ⟨0, Nat.zero_le _, rfl, fun i _ hi => absurd hi (by omega), World.grownBy.refl _ _⟩
  case round =>
    obtain ⟨j, hj, rfl, hall, hgr⟩ := hrel
    have HA := Lib.hid hall
    clear hall
    by_cases hlt : j < n
    · have K : j < l.length := by rw [HL.out]; exact hlt
      have hb0 : Below w.heap.size w wr := ⟨hgr.os, hgr.tape, hgr.output, hgr.size, fun k hk => hgr.block k hk (by simp)⟩
      obtain ⟨b, off, rfl, hb, X⟩ := (h.below hb0).get K
      obtain ⟨r0, r1, r2, r3, r4, r5, r6⟩ := X
      have hc := HD.out wr _ hgr (List.getElem_mem K)
      have HY := Lib.hid (fun e : p (l[j]'K) = true => idxP_at K e HA.out)
      have HN := Lib.hid (fun e : p (l[j]'K) = false => show ∀ i (hi : i < l.length), i < j + 1 → p l[i] = false from fun i hi hij => by
        by_cases e2 : i = j
        · subst e2; exact e
        · exact HA.out i hi (by omega))
      clear hb0
      generalize (l[j]'K) = x at *
      cases hp : p x <;> rw [hp] at hc HY HN
      · have HN2 := Lib.hid (HN.out rfl)
        clear HN HY
        go_wp2_with (go_at_fn f; refine hc.mono ?_; rintro e w2 ⟨rfl, hg2⟩)
        go_roundw
        case rel => exact ⟨j + 1, by omega, by go_num, HN2.out, grown_or hgr hg2⟩
        case measure => simp [intOf]; omega
      · have HY2 := Lib.hid (HY.out rfl)
        clear HN HY
        go_wp2_with (go_at_fn f; refine hc.mono ?_; rintro e w2 ⟨rfl, hg2⟩)
        go_ret
        exact ⟨by rw [HY2.out]; rfl, grown_or hgr hg2⟩
    · have hje : j = n := by omega
      subst hje
      have HM := Lib.hid (idxP_no (p := p) (l := l) (fun r hr => by
        obtain ⟨i, hi, rfl⟩ := List.getElem_of_mem hr
        exact HA.out i hi (by rw [← HL.out]; exact hi)))
      go_wp2
      go_ret
      exact ⟨by rw [HM.out]; rfl, hgr⟩
/-- The row while it is cut. -/
structure DelInv (q : Rc → Bool) (l R : List Rc) (j i : Nat) : Prop where
  len : R.length = l.length
  done : R.take i = (l.take j).filter q
  high : R.drop j = l.drop j
  lt : i < j
  jl : j ≤ l.length
theorem DelInv.start {q : Rc → Bool} {l : List Rc} {k : Nat} (hk : k < l.length) (h : q l[k] = false) (ha : ∀ i (hi : i < l.length), i < k → q l[i] = true) : DelInv q l l (k + 1) k := by
  refine ⟨rfl, ?_, rfl, by omega, by omega⟩
  rw [List.take_succ_eq_append_getElem hk, List.filter_append, List.filter_cons, if_neg (by rw [h]; simp), List.filter_nil, List.append_nil]
  refine (List.filter_eq_self.2 fun r hr => ?_).symm
  obtain ⟨i, hi, rfl⟩ := List.getElem_of_mem hr
  rw [List.length_take] at hi
  rw [List.getElem_take]
  exact ha i (by omega) (by omega)
theorem DelInv.at_ {q : Rc → Bool} {l R : List Rc} {j i : Nat} (h : DelInv q l R j i) (hj : j < l.length) (hR : j < R.length) : R[j] = l[j] := by
  have h1 : R[j]? = l[j]? := by
    have e1 : (R.drop j)[0]? = R[j]? := by rw [List.getElem?_drop]; simp
    have e2 : (l.drop j)[0]? = l[j]? := by rw [List.getElem?_drop]; simp
    rw [← e1, h.high, e2]
  rw [List.getElem?_eq_getElem hR, List.getElem?_eq_getElem hj] at h1
  exact Option.some.inj h1
theorem DelInv.keep {q : Rc → Bool} {l R : List Rc} {j i : Nat} (h : DelInv q l R j i) (hj : j < l.length) (hq : q l[j] = true) : DelInv q l (R.set i l[j]) (j + 1) (i + 1) := by
  have hi : i < R.length := by rw [h.len]; have := h.lt; have := h.jl; omega
  refine ⟨by rw [List.length_set, h.len], ?_, ?_, by have := h.lt; omega, by omega⟩
  · rw [List.take_succ_eq_append_getElem (by simpa using hi), List.getElem_set_self, List.take_set_of_le (Nat.le_refl _), h.done, List.take_succ_eq_append_getElem hj, List.filter_append, List.filter_cons, if_pos hq, List.filter_nil]
  · rw [List.drop_set_of_lt (by have := h.lt; omega)]
    have e1 : R.drop (j + 1) = (R.drop j).drop 1 := by rw [List.drop_drop]
    have e2 : l.drop (j + 1) = (l.drop j).drop 1 := by rw [List.drop_drop]
    rw [e1, e2, h.high]
theorem DelInv.skip {q : Rc → Bool} {l R : List Rc} {j i : Nat} (h : DelInv q l R j i) (hj : j < l.length) (hq : q l[j] = false) : DelInv q l R (j + 1) i := by
  refine ⟨h.len, ?_, ?_, by have := h.lt; omega, by omega⟩
  · rw [h.done, List.take_succ_eq_append_getElem hj, List.filter_append, List.filter_cons, if_neg (by rw [hq]; simp), List.filter_nil, List.append_nil]
  · have e1 : R.drop (j + 1) = (R.drop j).drop 1 := by rw [List.drop_drop]
    have e2 : l.drop (j + 1) = (l.drop j).drop 1 := by rw [List.drop_drop]
    rw [e1, e2, h.high]
theorem DelInv.end_ {q : Rc → Bool} {l R : List Rc} {i : Nat} (h : DelInv q l R l.length i) : R.take i = l.filter q ∧ (l.filter q).length = i := by
  have h1 := h.done
  rw [List.take_length] at h1
  refine ⟨h1, ?_⟩
  rw [← h1, List.length_take, h.len]
  have := h.lt
  omega
theorem idxP_cases (p : Rc → Bool) (l : List Rc) : (idxP p l = -1 ∧ l.filter (fun r => !p r) = l) ∨ ∃ k : Nat, ∃ hk : k < l.length, idxP p l = k ∧ p l[k] = true ∧ ∀ i (hi : i < l.length), i < k → p l[i] = false := by
  unfold idxP
  cases h : l.findIdx? p with
  | none =>
    rw [List.findIdx?_eq_none_iff] at h
    exact .inl ⟨rfl, List.filter_eq_self.2 fun r hr => by have := h r hr; simpa using this⟩
  | some k =>
    rw [List.findIdx?_eq_some_iff_getElem] at h
    obtain ⟨hk, h1, h2⟩ := h
    exact .inr ⟨k, hk, rfl, h1, fun i hi hik => by simpa using h2 i hik⟩
set_option maxRecDepth 100000 in
set_option maxHeartbeats 8000000 in
theorem deleteF_any (p : Rc → Bool) (f : Nat) (cb : Array Value) (B : Nat) (v : Value) (l : List Rc) (w : World) (h : w.ownsRow B 61 7 v l.length (l.flatMap Rc.cells)) (hok : ∀ r ∈ l, r.Ok) (hlen : l.length < 1000000)
    (ef : ∀ args w, (callFunc f args).run Tryz.prog w = .ok (.enter f args) w) (hso : CbGives p f cb l v.ownBlock w) :
    Calls Tryz.prog 37 #[v, .func (.func f) #[] cb] w fun e w' => ∃ v', e = .returned v' ∧ w'.ownsRow B 61 7 v' (l.filter fun r => !p r).length ((l.filter fun r => !p r).flatMap Rc.cells) ∧ w.grownBy w' v.ownBlock := by
  obtain ⟨A, c, rfl, hrs⟩ := own_rcs h hok (by unfold maxLen; omega)
  have hI := indexF_any p f cb A l.length c l w hrs ef (fun W r hg hr => hso W r (hg.but _) hr)
  rcases idxP_cases p l with ⟨e1, e2⟩ | ⟨k, hk, e1, hpk, hpa⟩
  · rw [e1] at hI
    rw [e2]
    have HO := Lib.hid h
    clear h hso e1 e2
    go_enter Tryz.func37, Tryz.ntmps37
    go_wp2_with (go_at_call 89; refine hI.mono ?_; rintro e w1 ⟨rfl, hg1⟩)
    go_ret
    exact ⟨_, rfl, HO.out.kept hg1 (by cases A <;> simp [Value.ownBlock]), hg1.but _⟩
  · rw [e1] at hI
    obtain ⟨g, cap, cur, ev, hBg, hblk, hc1, hc2, hc3, ht⟩ : ∃ g cap cur, Value.slice A l.length c = .slice (some ⟨g, 0, none⟩) l.length cap ∧ B ≤ g ∧ w.heap[g]? = some (.cells cur 61 (0, 0)) ∧ l.length ≤ cap ∧ cap ≤ maxLen ∧ cur.size = cap * 7 ∧ cur.toList.take (l.length * 7) = l.flatMap Rc.cells := by
      rcases h.2 with ⟨_, h0⟩ | h2
      · omega
      · exact h2
    obtain ⟨rfl, hcc⟩ : A = some ⟨g, 0, none⟩ ∧ cap = c := by cases ev; exact ⟨rfl, rfl⟩
    subst hcc
    clear ev
    have hrow : RowAt w g cap l := ⟨cur, hblk, hc1, hc2, hc3, ht⟩
    have hse : Value.ownBlock (.slice (some ⟨g, 0, none⟩) l.length cap) = some g := rfl
    rw [hse] at hso ⊢
    have HD : Aside _ := hso
    have HS := Lib.hid (DelInv.start (q := fun r => !p r) hk (by simp [hpk]) (fun i hi hik => by simp [hpa i hi hik]))
    clear h hso e1 hpk hpa hblk hc3 ht hse hrs
    have hne1 : ((k : Int) == -1) = false := beq_eq_false_iff_ne.2 (by omega)
    go_enter Tryz.func37, Tryz.ntmps37
    go_wp2_with (go_at_call 89; refine hI.mono ?_; rintro e w1 ⟨rfl, hg1⟩)
    go_loopw [5, 6] (fun s5 s6 wr => ∃ (i j : Nat) (R : List Rc), s5 = .int .i64 i ∧ s6 = .int .i64 j ∧ RowAt wr g cap R ∧ DelInv (fun r => !p r) l R j i ∧ w.grownBy wr (some g)) (fun _ s6 _ => l.length - (intOf s6).toNat)
    case atStart => exact ⟨k, k + 1, l, rfl, by go_num, hrow.kept hg1 (by simp), HS.out, hg1.but _⟩
    case round =>
      obtain ⟨i, j, R, rfl, rfl, hR, hinv, hgr⟩ := hrel
      have hij := hinv.lt
      have hjl := hinv.jl
      have HI := Lib.hid hinv
      have hRl := hinv.len
      by_cases hlt : j < l.length
      · have hjR : j < R.length := by omega
        have hiR : i < R.length := by omega
        have hjj := hinv.at_ hlt hjR
        have X := hR.get hjR
        rw [hjj] at X
        obtain ⟨r0, r1, r2, r3, r4, r5, r6⟩ := X
        have hc := HD.out (wr.alloc (.cells #[.string (l[j]'hlt).nm, .int .i64 (l[j]'hlt).st, .int .i64 (l[j]'hlt).ag.c, .int .i64 (l[j]'hlt).ag.hi, .int .u64 (l[j]'hlt).ag.lo, .int .i64 (l[j]'hlt).ag.mn, .int .i64 (l[j]'hlt).ag.mx] 61)) _ (grown_or hgr (World.grownBy_alloc _ _ _)) (List.getElem_mem hlt)
        have HKE := Lib.hid (hinv.keep hlt)
        have HSK := Lib.hid (hinv.skip hlt)
        have HR := Lib.hid hR
        have hgl := hR.lt
        clear hinv hjj HI
        generalize (l[j]'hlt) = x at *
        cases hp : p x <;> rw [hp] at hc HKE HSK
        · have HK2 := Lib.hid (HKE.out rfl)
          clear HKE HSK
          have g0 : (0 : Int) ≤ (i : Int) := by omega
          have g1 : (i : Int) < (l.length : Int) := by omega
          go_wp2_with (first
            | (go_at_fn f; refine hc.mono ?_; rintro e w2 ⟨rfl, hg2⟩
               have R2 := (HR.out.kept (World.grownBy_alloc wr (.cells #[.string x.nm, .int .i64 x.st, .int .i64 x.ag.c, .int .i64 x.ag.hi, .int .u64 x.ag.lo, .int .i64 x.ag.mn, .int .i64 x.ag.mx] 61) none) (by simp)).kept hg2 (by simp)
               obtain ⟨y0, y1, y2, y3, y4, y5, y6⟩ := R2.get hiR
               have f0 := R2.free (i * 7)
               have f1 := R2.free (i * 7 + 1)
               have f2 := R2.free (i * 7 + 2)
               have f3 := R2.free (i * 7 + 3)
               have f4 := R2.free (i * 7 + 4)
               have f5 := R2.free (i * 7 + 5)
               have f6 := R2.free (i * 7 + 6)
               obtain ⟨z0, z1, z2, z3, z4, z5, z6⟩ := (RcCells.new wr x).keep hg2 (by simp)
               have HR2 := Lib.hid R2
               clear R2))
          go_roundw
          case rel => exact ⟨i + 1, j + 1, R.set i x, by go_num, by go_num, HR2.out.set i x, HK2.out, (grown_or (grown_or hgr (World.grownBy_alloc _ _ _)) hg2).andThen (grown_setCells g x.cells (i * 7) w2) (fun j hj => by cases hj; exact Or.inr rfl)⟩
          case measure => simp [intOf]; omega
        · have HK2 := Lib.hid (HSK.out rfl)
          clear HKE HSK
          go_wp2_with (go_at_fn f; refine hc.mono ?_; rintro e w2 ⟨rfl, hg2⟩)
          go_roundw
          case rel => exact ⟨i, j + 1, R, rfl, by go_num, (HR.out.kept (World.grownBy_alloc _ _ none) (by simp)).kept hg2 (by simp), HK2.out, (grown_or hgr (World.grownBy_alloc _ _ _)).andThen hg2 (fun j hj => by cases hj)⟩
          case measure => simp [intOf]; omega
      · have hje : j = l.length := by omega
        subst hje
        obtain ⟨hend, hlen2⟩ := hinv.end_
        have hiR : i < R.length := by omega
        have hcap := hR.le
        obtain ⟨vs, hcl⟩ := clear_row hR i hiR (cap - i) 0
        rw [hRl] at hcl
        have hcut := hR.cut i (by omega) vs
        rw [hend] at hcut
        have HC := Lib.hid hcut
        have HL2 := Lib.hid hlen2
        clear hcut hend hlen2 HI hinv hR
        go_wp2
        go_ret
        have ho := HC.out.own hBg
        rw [HL2.out] at ho
        rw [HL2.out]
        exact ⟨_, rfl, ho, hgr.andThen (grown_setCells g vs (i * 7) wr) (fun j hj => by cases hj; exact Or.inr rfl)⟩
end Go.Proofs.YtcglbbabfkbcbadGreat
