/-
  Several texts in one: Tier, Tier2.
-/
import Derived.Test.YtcglbbabfkbcbadGreatPut
import Derived.Test.YtcglbbabfkbcbadGreatRecDelV
import Derived.Maps.RangeWalk
import Derived.Deep.LoopGhost
import Derived.Deep.DeepCutAuto
import Derived.Deep.RegionLaw
/- view.Tier: a tier's records, in order. -/
namespace Go.Proofs.YtcglbbabfkbcbadGreat
open Go.ChangeShapes Go.WideShapes Go.ChangeAt Go.RowKit Go.Deep Go.Maps

theorem inv_place : ∀ (key : Value) (kl : Lit), keyOf Tryz.prog 83 key = some kl → ∃ x : ByteArray × Int, key = placeV x.1 x.2 := fun key kl h => by
  obtain ⟨s, n, rfl, _⟩ := key_inv h
  exact ⟨(s, n), rfl⟩
/-- A slice's three parts. -/
abbrev slV (x : Option Addr × Nat × Nat) : Value := .slice x.1 x.2.1 x.2.2
theorem inv_row {w : World} {base : Nat} : ∀ (v : Value) (y : DataW Unit × List MemPlace), rowElem w base 3 .i64 v = some y → ∃ c : Option Addr × Nat × Nat, v = slV c := fun v y h => by
  obtain ⟨zs, ho, _⟩ := rowElem_inv h
  obtain ⟨A, c, e, _⟩ := own_sl ho.1
  exact ⟨(A, zs.length, c), e⟩
/-- The groups that a range has come by. -/
def cameG (gs : List Gr) (left : Lit → Bool) : List Gr := gs.filter fun g => !left (klit g.nm g.st)
theorem has_group {D : DataW Unit} {gs : List Gr} (h : RepV D gs) {g : Gr} (hg : g ∈ gs) : Maps.has D (klit g.nm g.st) = true := by
  obtain ⟨ps, rfl, hp⟩ := h.perm
  rw [Maps.has_eq, List.any_eq_true]
  exact ⟨grP g, hp.mem_iff.2 (List.mem_map.2 ⟨g, hg, rfl⟩), same_klit.2 rfl⟩
theorem cameG_start {D : DataW Unit} {gs : List Gr} (h : RepV D gs) : cameG gs (Maps.has D) = [] := by
  unfold cameG
  rw [List.filter_eq_nil_iff]
  intro g hg
  rw [has_group h hg]
  simp
theorem cameG_end {gs : List Gr} {left : Lit → Bool} (h : ∀ kl, left kl = false) : cameG gs left = gs := by
  unfold cameG
  exact List.filter_eq_self.2 (fun r _ => by rw [h]; rfl)
theorem cameG_step {D : DataW Unit} {gs : List Gr} (h : RepV D gs) {left : Lit → Bool} {g0 : Gr} (hg : g0 ∈ gs) (hl : left (klit g0.nm g0.st) = true) : (cameG gs fun z => left z && !z.sameKey (klit g0.nm g0.st)).Perm (g0 :: cameG gs left) := by
  obtain ⟨a, b, rfl⟩ := List.append_of_mem hg
  have hap := h.apart
  rw [List.pairwise_append, List.pairwise_cons] at hap
  obtain ⟨_, ⟨hb, _⟩, hab⟩ := hap
  have hne : ∀ x ∈ a ++ g0 :: b, ¬ (x.nm = g0.nm ∧ x.st = g0.st) → (left (klit x.nm x.st) && !(klit x.nm x.st).sameKey (klit g0.nm g0.st)) = left (klit x.nm x.st) := by
    intro x hx hs
    have : (klit x.nm x.st).sameKey (klit g0.nm g0.st) = false := by
      cases hk : (klit x.nm x.st).sameKey (klit g0.nm g0.st)
      · rfl
      · exact absurd ((gklit_iff (h.ok x hx) (h.ok g0 hg).nm (h.ok g0 hg).st).1 (same_klit.1 hk)) hs
    rw [this]; simp
  have e1 : cameG a (fun z => left z && !z.sameKey (klit g0.nm g0.st)) = cameG a left := by
    unfold cameG
    apply List.filter_congr
    intro x hx
    exact congrArg Bool.not (hne x (by simp [hx]) (hab x hx g0 (by simp)))
  have e2 : cameG b (fun z => left z && !z.sameKey (klit g0.nm g0.st)) = cameG b left := by
    unfold cameG
    apply List.filter_congr
    intro x hx
    exact congrArg Bool.not (hne x (by simp [hx]) (fun e => hb x hx ⟨e.1.symm, e.2.symm⟩))
  have e3 : (klit g0.nm g0.st).sameKey (klit g0.nm g0.st) = true := same_klit.2 rfl
  unfold cameG at *
  rw [List.filter_append, List.filter_append, List.filter_cons, List.filter_cons, e1, e2, if_pos (by show (!(left _ && !(klit g0.nm g0.st).sameKey (klit g0.nm g0.st))) = true; rw [e3]; simp), if_neg (by rw [hl]; simp)]
  exact List.perm_middle
/-- What came in a step of the range is one of the groups. -/
theorem RepV.next {D : DataW Unit} {gs : List Gr} (h : RepV D gs) {w : World} {base : Nat} {s : ByteArray} {n : Int} {kl : Lit} {c : Value} {y : DataW Unit × List MemPlace} (hk : keyOf Tryz.prog 83 (placeV s n) = some kl) (hc : rowElem w base 3 .i64 c = some y) (hat : ∀ z, D.atKey kl z = y.1) :
    ∃ g ∈ gs, s = g.nm ∧ n = g.st ∧ kl = klit g.nm g.st ∧ w.ownsInts base 3 .i64 c g.vs := by
  obtain ⟨s', n', e1, rfl, hs, hn⟩ := key_inv hk
  have e2 : s = s' ∧ n = n' := by simpa [placeV] using e1
  obtain ⟨rfl, rfl⟩ := e2
  obtain ⟨zs, ho, rfl⟩ := rowElem_inv hc
  have e := h.at_ hs hn
  cases hf : gs.find? (fun g => g.at_ s n) with
  | none =>
    rw [hf] at e
    have h1 := (e (.lit (.bool true))).symm.trans (hat (.lit (.bool true)))
    rcases ho.datum (H := Unit) with ⟨e3, _⟩ | e3
    · simp only at h1; rw [e3] at h1; cases h1
    · simp only at h1; rw [e3] at h1; cases h1
  | some g =>
    have hg := List.mem_of_find?_eq_some hf
    have hga : g.at_ s n = true := List.find?_some (p := fun g : Gr => g.at_ s n) hf
    obtain ⟨rfl, rfl⟩ := of_decide_eq_true hga
    have hv := h.vals hs hn ((e .nil).symm ▸ (by have := hat .nil; rw [e .nil] at this; exact this)) ho
    refine ⟨g, hg, rfl, rfl, rfl, ?_⟩
    have : zs = g.vs := by rw [hv]; unfold valsAt; rw [hf]
    rw [← this]; exact ho
theorem ownsMap_of_groups {w : World} {base b n : Nat} {D : DataW Unit} (h : w.ownsGroups Tryz.prog 83 base 3 .i64 b n D) : w.ownsMap Tryz.prog 83 (rowElem w base 3 .i64) b n D := by
  obtain ⟨es, clock, h1, F, h3, h4, _⟩ := h
  exact ⟨es, clock, h1, F, h3, h4⟩
theorem gr_rc_ok {gs : List Gr} {D : DataW Unit} (h : RepV D gs) : ∀ g ∈ gs, (ofL g.vs).Fit := fun g hg => Ag.Fit.of ((h.ok g hg).vs)
end Go.Proofs.YtcglbbabfkbcbadGreat
/- view.Tier, walked. -/
namespace Go.Proofs.YtcglbbabfkbcbadGreat
open Go.ChangeShapes Go.WideShapes Go.ChangeAt Go.RowKit Go.Deep Go.Maps

theorem view_tab (r : Rch) (i : Int) (l : List Smp) (h : ∀ s ∈ l, s.Ok) : Tab (viewL r i l) := tab_addL .nil (fun x hx => (recs_ok h x hx).2.1.ok)
theorem view_len (r : Rch) (i : Int) (l : List Smp) : (viewL r i l).length ≤ l.length := Nat.le_trans (fill_len _) (recs_len r i l)
theorem view_ok (r : Rch) (i : Int) (l : List Smp) (h : ∀ s ∈ l, s.Ok) : ∀ x ∈ viewL r i l, x.Ok := by
  intro x hx
  have hT := view_tab r i l h
  have hf := (hT.v x hx).fit
  rcases mem_addL hx with hx | ⟨y, hy, _, h1, h2⟩
  · cases hx
  · have := (recs_ok h y hy).2.2
    exact ⟨by rw [h1]; exact this.nm, by rw [h2]; exact this.st, hf⟩
theorem own_le {w : World} {B : Nat} {e : TypeId} {k : Nat} {v : Value} {n : Nat} {xs : List Value} (h : w.ownsRow B e k v n xs) : n ≤ maxLen := by
  rcases h.2 with ⟨_, rfl⟩ | ⟨g, cap, cur, _, _, _, h1, h2, _⟩
  · exact Nat.zero_le _
  · omega
theorem own_below' {w w' : World} {base : Nat} {e : TypeId} {size : Nat} {v : Value} {n : Nat} {xs : List Value} (h : w.ownsRow base e size v n xs) (hb : Below w.heap.size w w') : w'.ownsRow base e size v n xs :=
  h.kept (row := none) ⟨hb.os, hb.tape, hb.output, hb.size, fun i hi _ => hb.block i hi⟩ (by cases v.ownBlock <;> simp)
/-- The row behind one round. -/
def RowPut (w0 : World) (v : Value) (xs : List Rc) (x : Rc) (B : Nat) (s7 : Value) (wx : World) : Prop := ∃ v', s7 = v' ∧ wx.ownsRow B 61 7 v' (xs.length + 1) (xs.flatMap Rc.cells ++ x.cells) ∧ w0.grownBy wx v.ownBlock
set_option maxRecDepth 100000 in
set_option maxHeartbeats 8000000 in
theorem tier_any (A : Option Addr) (n c : Nat) (B : Option Addr) (m d : Nat) (r : Rch) (i : Int) (C : Option Addr) (k e : Nat) (l : List Smp) (w : World) (h : RchAt w A n B m r) (hn : n ≤ 1000000) (hl : Smps w C k l) (hk : k ≤ 100000) :
    Calls Tryz.prog 9 #[rchV r.now r.nm A n c B m d, .int .i64 i, .slice C k e] w fun x w' => ∃ v, x = .returned v ∧ w'.ownsRow w.heap.size 61 7 v (viewL r i l).length ((viewL r i l).flatMap Rc.cells) ∧ Below w.heap.size w w' := by
  have hb0 : Below w.heap.size w (w.alloc (.cells #[.int .i64 r.now, .string r.nm, .slice A n c, .slice B m d] 46)) := (Below.refl _ w).alloc (Nat.le_refl _) _
  have HP := Lib.hid (put_any A n c B m d r i C k e l _ (h.below hb0) hn (hl.below hb0) hk)
  have HTab := Lib.hid (view_tab r i l hl.ok)
  have hvl := view_len r i l
  rw [hl.len] at hvl
  obtain ⟨i0, hi, hz0, hz1, hz2⟩ := info_parts info_rec
  have HI := Lib.hid hi
  have HI0 := Lib.hid hz0
  have HI1 := Lib.hid hz1
  have HI2 := Lib.hid hz2
  clear hi hz0 hz1 hz2 h hl
  go_enter Tryz.func9, Tryz.ntmps9
  go_wp2_with (first
    | (go_at_call 25
       refine HP.out.mono ?_
       rintro e w1 ⟨b, gs, rfl, hbb, G, hpm, hgl, _, hb1⟩
       obtain ⟨D, hown, hrep⟩ := G.own
       have hmap := ownsMap_of_groups hown
       have hbw := hb0.trans (hb1.mono hb0.size)
       have HREP := Lib.hid hrep
       have HPM := Lib.hid hpm
       have hblt := hown.choose_spec.choose_spec.1
       have hblt2 := lt_of_block hblt
       clear hpm G hown hrep hb1 HP hblt hb0)
    | (at_range
       refine wpList_range_own _ rfl _ 80 rfl 83 25 place_law Tryz.underlying80 (rowElem w1 (b + 1) 3 .i64) b k _ rfl hmap ?_
       intro w0 hrg0 hg0 hs0))
  go_frame
  obtain ⟨wo, hwo⟩ : ∃ wo, wo = w1 := ⟨_, rfl⟩
  subst hwo
  have hbs := hbw.size
  simp only [World.size_alloc] at hbb
  go_loopw [7, 8, 9] (fun v _ _ wr => ∃ (left : Lit → Bool) (cnt : Nat) (xs : List Rc), wr.ranges Tryz.prog 83 (rowElem wo (b + 1) 3 .i64) b wo.heap.size k D left cnt ∧ Hid (xs.Perm ((cameG gs left).map Gr.rc)) ∧ xs.length ≤ k ∧ wr.ownsRow (wo.heap.size + 1) 61 7 v xs.length (xs.flatMap Rc.cells) ∧ Below wo.heap.size wo wr)
    (fun _ _ _ wr => wr.rangeLeft b wo.heap.size)
  case atStart => exact ⟨_, _, [], hrg0, Lib.hid (by rw [cameG_start HREP.out]; exact List.Perm.refl _), Nat.zero_le _, World.ownsRow_nil _ _ _ _, (Below.refl _ _).grown hg0 (Nat.le_refl _) (fun k hk => by cases hk)⟩
  case round =>
    obtain ⟨left, cnt, xs, hrg, HPE, hxl, hrow, hbel⟩ := hrel
    go_wp2_with (at_next; refine wpList_next_ranges _ rfl _ rfl 83 place_law (rowElem wo (b + 1) 3 .i64) (fun x : ByteArray × Int => placeV x.1 x.2) slV inv_place inv_row b wo.heap.size k _ _ _ rfl hrg ?_ ?_)
    · intro _ hl0
      have hperm := HPE.out
      rw [cameG_end hl0] at hperm
      have hS := sort_row hrow HTab.out.ord (hperm.trans HPM.out) (by omega)
      have hvk2 := hrow.lt
      have HV2 := Lib.hid hvk2
      clear hrg hl0 hrow hperm hvk2
      go_wp2_with fail
      refine hS.mono ?_
      rintro e w2 ⟨rfl, hrow2, hg2⟩
      go_wp2
      go_ret
      exact ⟨_, rfl, own_base hrow2 (by omega), (hbw.trans (hbel.mono hbw.size)).grown hg2 (Nat.le_trans hbw.size hbel.size) (fun q hq => by have := (HV2.out q hq).1; omega)⟩
    · intro s st a1 a2 a3 kl dd ps w1 cnt1 hkey hlx hv hat hrg1 hlt hg1 hs1 hen
      obtain ⟨g, hg, rfl, rfl, rfl, hoi⟩ := HREP.out.next hkey hv hat
      have hstep := (cameG_step HREP.out hg hlx).map Gr.rc
      have hgok := HREP.out.ok g hg
      have hrow1 := hrow.kept hg1 (own_other hrow)
      have hbel1 := hbel.grown hg1 hbel.size (fun k hk => by cases hk; exact Nat.le_refl _)
      have hoi1 := hoi.kept (w' := w1) (row := none) ⟨hbel1.os, hbel1.tape, hbel1.output, hbel1.size, fun i hi _ => hbel1.block i hi⟩ (by cases (slV (a1, a2, a3)).ownBlock <;> simp)
      obtain ⟨a1', a3', e1, hII⟩ := own_ints hoi1.1 rfl hoi1.2 (own_le hoi1.1)
      have e2 : a1 = a1' ∧ a2 = g.vs.length ∧ a3 = a3' := by simpa [slV] using e1
      obtain ⟨rfl, rfl, rfl⟩ := e2
      have HST := Lib.hid hstep
      have HLT := Lib.hid hlt
      have HRG := Lib.hid hrg
      have HSZ := Lib.hid hs1
      have HOK := Lib.hid hgok
      have HR1 := Lib.hid hrow1
      have HFIT := Lib.hid (Ag.Fit.of hgok.vs)
      have hlt1 := hrg1.lt
      have KB := Bx.new w1 83 #[.string g.nm, .int .i64 g.st]
      have hbk := (Below.refl w1.heap.size w1).alloc (Nat.le_refl _) (.cells #[.string g.nm, .int .i64 g.st] 83)
      have hbel2 := hbel1.trans (hbk.mono hbel1.size)
      have hrg2 := hrg1.alloc (.cells #[.string g.nm, .int .i64 g.st] 83)
      have HR2 := Lib.hid (hrow1.alloc (.cells #[.string g.nm, .int .i64 g.st] 83))
      have HII := Lib.hid (hII.below hbk)
      clear hs1 hstep hlt hrg hrow1 hgok hoi hoi1 hII e1 hv hat hkey hlx HR1 hbk
      have k0 := KB.at_ 0 rfl
      have k1 := KB.at_ 1 rfl
      have hlt2 := hrg2.lt
      have hrl := HR2.out.lt
      have HRL := Lib.hid hrl
      clear hrl KB
      go_upto_region 5 with fail
      generalize hW5 : w1.alloc (.cells #[.string g.nm, .int .i64 g.st] 83) = w5 at *
      have HOF := Lib.hid (of_any a1 g.vs.length a3 g.vs w5.drew (HII.out.below ((Below.refl _ _).drew)))
      obtain ⟨z, hz⟩ : ∃ z, ofL g.vs = z := ⟨_, rfl⟩
      rw [hz] at HOF HFIT
      have HGR := Lib.hid (show g.rc = ⟨g.nm, g.st, z⟩ from by unfold Gr.rc; rw [hz])
      have HRD := Lib.hid (own_low (own_below' HR2.out ((Below.refl _ _).drew)) (Nat.le_refl _))
      have hs5 : wo.heap.size + 1 ≤ w5.heap.size := by omega
      clear hW5 hz HR2 HII hrg1 hlt1
      go_region_law (first
        | (go_simp
           go_at_call 26
           refine HOF.out.mono ?_
           rintro e wq ⟨rfl, hbq⟩
           have kq0 := (hbq.cell (p := ⟨w1.heap.size, 0, none⟩) (World.block_lt_of_cell? _ _ k0)).trans k0
           have kq1 := (hbq.cell (p := ⟨w1.heap.size, 1, none⟩) (World.block_lt_of_cell? _ _ k1)).trans k1
           have HRQ := Lib.hid ((own_below' HRD.out hbq).alloc (.cells #[.string g.nm, .int .i64 g.st, .int .i64 z.c, .int .i64 z.hi, .int .u64 z.lo, .int .i64 z.mn, .int .i64 z.mx] 61))
           have HSQ := Lib.hid (Sl.new wq 61 wq.heap.size (Rc.cells ⟨g.nm, g.st, z⟩) #[.string g.nm, .int .i64 g.st, .int .i64 z.c, .int .i64 z.hi, .int .u64 z.lo, .int .i64 z.mn, .int .i64 z.mx] rfl rfl))
        | (refine step_append_sl _ rfl _ _ 49 rfl (wo.heap.size + 1) 61 i0 _ 7 64 Tryz.underlying49 HI.out HI0.out HI1.out HI2.out rfl (by decide) u7 xs.length (xs.flatMap Rc.cells) rfl HRQ.out _ 1 1 (Rc.cells ⟨g.nm, g.st, z⟩) rfl rfl HSQ.out (one_cells _) ?_ ?_ ?_ ?_
           (unfold maxLen; omega)
           (omega)
           (have : w5.heap.size ≤ wq.heap.size := hbq.size; simp; omega)
           intro v' w6 hown6 hg6 _))
      all_goals
        simp only [List.getElem_toArray, List.getElem_cons_succ, List.getElem_cons_zero]
        go_frame
        go_roundw
        case rel =>
          have hbA : Below w5.heap.size w5 (wq.alloc (.cells #[.string g.nm, .int .i64 g.st, .int .i64 z.c, .int .i64 z.hi, .int .u64 z.lo, .int .i64 z.mn, .int .i64 z.mx] 61)) := ((Below.refl w5.heap.size w5).drew.trans hbq).alloc hbq.size _
          have hga : w5.grownBy w6 u7.ownBlock := ((grown_of_below hbA none).but _).andThen hg6 (fun q hq => .inr (by rw [hq]))
          have hrg6 := hrg2.kept hga (fun e => by have := (HRL.out _ e.symm).1; omega) (fun e => by have := (HRL.out _ e.symm).1; omega)
          have hbel6 := hbel2.grown hga hbel2.size (fun q hq => by have := (HRL.out q hq).1; omega)
          have hpe : (xs ++ [(⟨g.nm, g.st, z⟩ : Rc)]).Perm ((cameG gs fun z => left z && !z.sameKey (klit g.nm g.st)).map Gr.rc) := by
            refine (List.perm_append_comm.trans ?_).trans HST.out.symm
            rw [List.map_cons, HGR.out]
            exact HPE.out.cons _
          have hxl' : (xs ++ [(⟨g.nm, g.st, z⟩ : Rc)]).length ≤ k := by
            rw [hpe.length_eq, List.length_map]
            exact Nat.le_trans (List.length_filter_le _ _) hgl
          (repeat apply Exists.intro)
          exact ⟨⟨_, cnt1, xs ++ [⟨g.nm, g.st, z⟩], hrg6, Lib.hid hpe, hxl', by simpa using hown6, hbel6⟩, rfl⟩
        case measure =>
          have hbA : Below w5.heap.size w5 (wq.alloc (.cells #[.string g.nm, .int .i64 g.st, .int .i64 z.c, .int .i64 z.hi, .int .u64 z.lo, .int .i64 z.mn, .int .i64 z.mx] 61)) := ((Below.refl w5.heap.size w5).drew.trans hbq).alloc hbq.size _
          have hga : w5.grownBy w6 u7.ownBlock := ((grown_of_below hbA none).but _).andThen hg6 (fun q hq => .inr (by rw [hq]))
          have hrg6 := hrg2.kept hga (fun e => by have := (HRL.out _ e.symm).1; omega) (fun e => by have := (HRL.out _ e.symm).1; omega)
          rw [hrg6.left_eq, HRG.out.left_eq]
          exact HLT.out
end Go.Proofs.YtcglbbabfkbcbadGreat
